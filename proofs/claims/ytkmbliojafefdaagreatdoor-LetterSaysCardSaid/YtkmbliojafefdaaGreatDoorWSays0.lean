import Derived.Test.YtkmbliojafefdaaGreatDoorWB6
import Derived.Test.YtkmbliojafefdaaGreatDoorRows
import Derived.Stop.Joined
import Derived.KernelRfl
import Derived.LaidMore
import Derived.Lay
import Derived.Test.YtkmbliojafefdaaGreatDoorCards

set_option autoImplicit false
set_option linter.unusedSimpArgs false
set_option linter.unusedVariables false
namespace Go.Proofs.YtkmbliojafefdaaGreatDoor.letterSays
set_option maxHeartbeats 0 in
theorem closed : joinedFacts Tryz.prog 8 Tryz.f8 Rows.letterSaysSpec Rows.letterSaysRow = true := by
  unfold joinedFacts
  simp only [Bool.and_eq_true]
  repeat' apply And.intro
  all_goals (as_aux_lemma => kernel_rfl)
end Go.Proofs.YtkmbliojafefdaaGreatDoor.letterSays

set_option autoImplicit false
set_option maxRecDepth 100000
namespace Go.Proofs.YtkmbliojafefdaaGreatDoor
open Go.Sx
open Enc (enc val)
def lawChc (r : Chc) : Bool := decide (r.tl.length ≤ 5) && lawPh r.pl 5
def lawLet (L : Let) : Bool := decide (L.rl.length ≤ 30) && L.rl.all lawChc
def lawBk (bl : List Let) : Bool := decide (bl.length ≤ 12) && bl.all lawLet
theorem all_no {α : Type} [Inhabited α] {p : α → Bool} {l : List α} {k : Nat} (hk : k < l.length) (h : p (nth l k) = false) : l.all p = false := by
  rw [List.all_eq_false]; exact ⟨_, nth_mem hk, by simp [h]⟩
theorem all_yes {α : Type} [Inhabited α] {p : α → Bool} {l : List α} (h : ∀ k, k < l.length → p (nth l k) = true) : l.all p = true := by
  rw [List.all_eq_true]
  intro x hx
  obtain ⟨k, hk, rfl⟩ := List.getElem_of_mem hx
  have := h k hk
  rwa [nth_get hk] at this
theorem lawBook_spec (b : Bk) (w : World) (hb : Stb w [] (BkIn b)) : Calls Tryz.prog 40 #[val b] w fun e w' => e = .returned (.bool (lawBk b.bl)) ∧ Cl w [] [] w' := by
  have hB := rd_stb hb.here.1
  have hL := rd_len hB.here
  refine calls_cw (vs := [_]) Tryz.func40 rfl Tryz.ntmps40 rfl (Cl.start0 w) (cw_seq (cw_region ?_))
  refine sw_x rfl rfl rfl (e_box rfl rfl rfl) (fun b1 => ?_)
  refine sr rfl rfl rfl ((q_assign rfl rfl)) (sw_nil (post_then (cw_seq (cw_seq (cw_region (sr rfl rfl rfl ((q_fieldAddr rfl rfl)) ?_))))))
  refine sr rfl rfl rfl ((q_loadC rfl rfl (by exact .head _) rfl)) ?_
  refine sr rfl rfl rfl ((q_len rfl (.cons rfl inferInstance (.nil)) (by exact fun w hw => Stb.cl (by assumption) hw))) ?_
  refine sr rfl rfl rfl ((q_gtr rfl rfl rfl)) (sw_nil (post_then ?_))
  refine cw_cond rfl (fun h => ?_) (fun h => ?_)
  · skip
    have e1 : lawBk b.bl = false := by unfold lawBk; rw [decide_eq_false (by simp at h; omega)]; rfl
    refine cw_seq (cw_region (sr rfl rfl rfl ((q_assign rfl rfl)) (sw_nil (post_then (cw_ret (post_then_r (post_ret1 rfl (resOk_tmp rfl) ?_)))))))
    exact fun w' hw => ⟨by rw [e1], (fun w h => Cl.sel (by exact .nil _) w h) _ hw⟩
  · skip
    refine cw_skip (post_then (cw_seq (cw_seq (cw_region (sr rfl rfl rfl ((q_assign rfl rfl)) (sw_nil (post_then (cw_block ?_))))))))
    refine cw_loop (S := Nat) (fun i => [(1, [], .pointer (some ⟨b1, 0, none⟩)), (3, [], .int .i64 i)]) (fun _ => Cl w [] [blk b1 [b.b.v] 45]) (fun i => i ≤ b.bl.length ∧ ∀ j, j < i → lawLet (nth b.bl j) = true) (fun i => b.bl.length - i) 0 ⟨by omega, fun j hj => by omega⟩ (by exact .cons rfl (.cons rfl .nil)) (fun w h => Cl.sel (by exact .take 0 rfl (.nil _)) w h) ?_
    rintro i ⟨hi, hbe⟩
    refine cw_seq (cw_seq (cw_region (sr rfl rfl rfl ((q_move rfl rfl)) (sr rfl rfl rfl ((q_fieldAddr rfl rfl)) ?_))))
    refine sr rfl rfl rfl ((q_loadC rfl rfl (by exact .head _) rfl)) ?_
    refine sr rfl rfl rfl ((q_len rfl (.cons rfl inferInstance (.nil)) (by exact fun w hw => Stb.cl (by assumption) hw))) ?_
    refine sr rfl rfl rfl ((q_lss rfl rfl rfl)) (sw_nil (post_then ?_))
    refine cw_cond rfl (fun h2 => ?_) (fun h2 => ?_)
    · skip
      have hi' : i < b.bl.length := by simp at h2; omega
      have hLi := hb.here.2 _ (nth_mem hi')
      have hR := rd_stb hLi.1
      have hRl := rd_len hR.here
      refine cw_skip (post_then (cw_seq (cw_block (cw_seq (cw_seq (cw_region (sr rfl rfl rfl ((q_fieldAddr rfl rfl)) ?_)))))))
      refine sr rfl rfl rfl ((q_loadC rfl rfl (by exact .head _) rfl)) ?_
      refine sr rfl rfl rfl ((q_move rfl rfl)) ?_
      refine sr rfl rfl rfl ((q_indexN rfl rfl rfl (by exact fun w hw => Stb.cl (by assumption) hw) (by intro hc; omega))) ?_
      refine sr rfl rfl rfl ((q_fieldEl rfl rfl (by exact fun w hw => Stb.cl (by assumption) hw) (by intro hc; omega))) ?_
      refine sr rfl rfl rfl ((q_loadF rfl rfl rfl (by exact fun w hw => Stb.cl (by assumption) hw) (by intro hc; omega) rfl)) ?_
      refine sr rfl rfl rfl ((q_len rfl (.cons rfl inferInstance (.nil)) (by exact fun w hw => Stb.cl (by assumption) hw))) ?_
      refine sr rfl rfl rfl ((q_gtr rfl rfl rfl)) (sw_nil (post_then ?_))
      refine cw_cond rfl (fun h3 => ?_) (fun h3 => ?_)
      · skip
        have e1 : lawBk b.bl = false := by
          unfold lawBk
          rw [all_no hi' (by unfold lawLet; rw [decide_eq_false (by simp at h3; omega)]; rfl)]; simp
        refine cw_seq (cw_region (sr rfl rfl rfl ((q_assign rfl rfl)) (sw_nil (post_then (cw_ret (post_then_r (post_blk_r (post_then_r (post_then_r (post_blk_r (post_then_r (post_ret1 rfl (resOk_tmp rfl) ?_))))))))))))
        exact fun w' hw => ⟨by rw [e1], (fun w h => Cl.sel (by exact .nil _) w h) _ hw⟩
      · skip
        have h30 : (nth b.bl i).rl.length ≤ 30 := by simp at h3; omega
        refine cw_skip (post_then (cw_seq (cw_region (sr rfl rfl rfl ((q_assign rfl rfl)) (sw_nil (post_then (cw_block ?_)))))))
        refine cw_loop (S := Nat) (fun j => [(1, [], .pointer (some ⟨b1, 0, none⟩)), (3, [], .int .i64 i), (4, [], .int .i64 j)]) (fun _ => Cl w [] [blk b1 [b.b.v] 45]) (fun j => j ≤ (nth b.bl i).rl.length ∧ ∀ k, k < j → lawChc (nth (nth b.bl i).rl k) = true) (fun j => (nth b.bl i).rl.length - j) 0 ⟨by omega, fun j hj => by omega⟩ (by exact .cons rfl (.cons rfl (.cons rfl .nil))) (fun w h => Cl.sel (by exact .take 0 rfl (.nil _)) w h) ?_
        rintro j ⟨hj, hbj⟩
        refine cw_seq (cw_seq (cw_region (sr rfl rfl rfl ((q_move rfl rfl)) (sr rfl rfl rfl ((q_fieldAddr rfl rfl)) ?_))))
        refine sr rfl rfl rfl ((q_loadC rfl rfl (by exact .head _) rfl)) ?_
        refine sr rfl rfl rfl ((q_move rfl rfl)) ?_
        refine sr rfl rfl rfl ((q_indexN rfl rfl rfl (by exact fun w hw => Stb.cl (by assumption) hw) (by intro hc; omega))) ?_
        refine sr rfl rfl rfl ((q_fieldEl rfl rfl (by exact fun w hw => Stb.cl (by assumption) hw) (by intro hc; omega))) ?_
        refine sr rfl rfl rfl ((q_loadF rfl rfl rfl (by exact fun w hw => Stb.cl (by assumption) hw) (by intro hc; omega) rfl)) ?_
        refine sr rfl rfl rfl ((q_len rfl (.cons rfl inferInstance (.nil)) (by exact fun w hw => Stb.cl (by assumption) hw))) ?_
        refine sr rfl rfl rfl ((q_lss rfl rfl rfl)) (sw_nil (post_then ?_))
        refine cw_cond rfl (fun h4 => ?_) (fun h4 => ?_)
        · skip
          have hj' : j < (nth b.bl i).rl.length := by simp at h4; omega
          have hC := hLi.2 _ (nth_mem hj')
          have hC1 := rd_stb hC.1
          have hC2 := rd_stb hC.2
          have hC1l := rd_len hC1.here
          refine cw_skip (post_then (cw_seq (cw_block (cw_seq (cw_region (sr rfl rfl rfl ((q_fieldAddr rfl rfl)) ?_))))))
          refine sr rfl rfl rfl ((q_loadC rfl rfl (by exact .head _) rfl)) ?_
          refine sr rfl rfl rfl ((q_move rfl rfl)) ?_
          refine sr rfl rfl rfl ((q_indexN rfl rfl rfl (by exact fun w hw => Stb.cl (by assumption) hw) (by intro hc; omega))) ?_
          refine sr rfl rfl rfl ((q_fieldEl rfl rfl (by exact fun w hw => Stb.cl (by assumption) hw) (by intro hc; omega))) ?_
          refine sr rfl rfl rfl ((q_loadF rfl rfl rfl (by exact fun w hw => Stb.cl (by assumption) hw) (by intro hc; omega) rfl)) ?_
          refine sr rfl rfl rfl ((q_move rfl rfl)) ?_
          refine sr rfl rfl rfl ((q_indexN rfl rfl rfl (by exact fun w hw => Stb.cl (by assumption) hw) (by intro hc; omega))) ?_
          refine sr rfl rfl rfl ((q_loadEl rfl rfl rfl (by exact fun w hw => Stb.cl (by assumption) hw) (by intro hc; omega))) ?_
          refine sw_x rfl rfl rfl (e_alloc rfl) (fun b5 => ?_)
          refine sw_eff0 rfl rfl (e_store (i := 0) rfl rfl rfl rfl rfl rfl rfl rfl) (sw_nil (post_then (cw_seq (cw_region (sr rfl rfl rfl ((q_fieldAddr rfl rfl)) ?_)))))
          refine sr rfl rfl rfl ((q_loadC rfl rfl (by exact .head _) rfl)) ?_
          refine sr rfl rfl rfl ((q_len rfl (.cons rfl inferInstance (.nil)) (by exact fun w hw => Stb.cl (by assumption) hw))) ?_
          refine sr rfl rfl rfl ((q_gtr rfl rfl rfl)) (sr rfl rfl rfl ((q_move rfl rfl)) (sr rfl rfl rfl ((q_fieldAddr rfl rfl)) ?_))
          refine sr rfl rfl rfl ((q_loadC rfl rfl (by exact .head _) rfl)) ?_
          refine sw_step rfl rfl rfl (q_call (CanCall.mk Tryz.call18) rfl (.cons rfl inferInstance (.cons rfl inferInstance (.nil))) (fun _ w hw => callq hw (lawPhones_spec _ _ _ (by omega) w (by exact stb_arg hw (by assumption))))) ?_
          refine sr rfl rfl rfl ((q_not rfl rfl)) (sr rfl rfl rfl ((q_or2 rfl rfl rfl)) (sw_nil (post_then ?_)))
          refine cw_cond rfl (fun h5 => ?_) (fun h5 => ?_)
          · skip
            have e1 : lawBk b.bl = false := by
              unfold lawBk
              rw [all_no hi' (by
                unfold lawLet
                rw [all_no hj' (by
                  unfold lawChc
                  cases hx : lawPh (nth (nth b.bl i).rl j).pl 5 with
                  | false => simp
                  | true => rw [hx] at h5; simp at h5; simp; omega)]
                simp)]
              simp
            refine cw_seq (cw_region (sr rfl rfl rfl ((q_assign rfl rfl)) (sw_nil (post_then (cw_ret (post_blk_r (post_then_r (post_then_r (post_blk_r (post_blk_r (post_then_r (post_then_r (post_blk_r (post_then_r (post_ret1 rfl (resOk_tmp rfl) ?_)))))))))))))))
            exact fun w' hw => ⟨by rw [e1], (fun w h => Cl.sel (by exact .nil _) w h) _ hw⟩
          · skip
            have e1 : lawChc (nth (nth b.bl i).rl j) = true := by
              unfold lawChc
              cases hx : lawPh (nth (nth b.bl i).rl j).pl 5 with
              | false => rw [hx] at h5; simp at h5
              | true => rw [hx] at h5; simp at h5; simp; omega
            refine cw_skip (post_blk (post_then (cw_region (sr rfl rfl rfl ((q_move rfl rfl)) ?_))))
            refine sr rfl rfl rfl ((q_add rfl rfl rfl (by intro hc; omega))) ?_
            refine sr rfl rfl rfl ((q_assign rfl rfl)) (sw_nil ?_)
            exact post_next (j + 1) (by exact .cons rfl (.cons rfl (.cons rfl .nil))) (fun w h => Cl.sel (by exact .take 1 rfl (.nil _)) w h) ⟨by omega, fun k hk => by
              rcases Nat.lt_or_ge k j with h6 | h6
              · exact hbj k h6
              · have : k = j := by omega
                subst this; exact e1⟩ (by omega)
        · skip
          have hj' : j = (nth b.bl i).rl.length := by simp at h4; omega
          subst hj'
          have e1 : lawLet (nth b.bl i) = true := by unfold lawLet; rw [all_yes hbj, decide_eq_true h30]; rfl
          refine cw_exit (post_then_x (post_then_x (post_blk_eq (post_blk (post_then (cw_region (sr rfl rfl rfl ((q_move rfl rfl)) ?_)))))))
          refine sr rfl rfl rfl ((q_add rfl rfl rfl (by intro hc; omega))) ?_
          refine sr rfl rfl rfl ((q_assign rfl rfl)) (sw_nil ?_)
          exact post_next (i + 1) (by exact .cons rfl (.cons rfl .nil)) (fun w h => Cl.sel (by exact .take 0 rfl (.nil _)) w h) ⟨by omega, fun k hk => by
            rcases Nat.lt_or_ge k i with h6 | h6
            · exact hbe k h6
            · have : k = i := by omega
              subst this; exact e1⟩ (by omega)
    · skip
      have hi' : i = b.bl.length := by simp at h2; omega
      subst hi'
      have e1 : lawBk b.bl = true := by unfold lawBk; rw [all_yes hbe, decide_eq_true (by simp at h; omega)]; rfl
      refine cw_exit (post_then_x (post_then_x (post_blk_eq (post_then (cw_seq (cw_region (sr rfl rfl rfl ((q_assign rfl rfl)) (sw_nil (post_then (cw_ret (post_ret1 rfl (resOk_tmp rfl) ?_)))))))))))
      exact fun w' hw => ⟨by rw [e1], (fun w h => Cl.sel (by exact .nil _) w h) _ hw⟩
theorem lawBk_small {bl : List Let} (h : lawBk bl = true) : ∀ L ∈ bl, ∀ r ∈ L.rl, ∀ p ∈ r.pl, p.size ≤ 12 := by
  intro L hL r hr p hp
  unfold lawBk lawLet lawChc lawPh at h
  simp only [Bool.and_eq_true, List.all_eq_true, decide_eq_true_eq] at h
  exact ((h.2 L hL).2 r hr).2.2 p hp
end Go.Proofs.YtkmbliojafefdaaGreatDoor

set_option autoImplicit false
set_option maxRecDepth 100000
namespace Go.Proofs.YtkmbliojafefdaaGreatDoor
open Go.Sx
open Enc (enc val)
structure CdAt (t : List Cond) (m : Nat) : Prop where
  ok : condOk (nth t m) = true
  lt : 0 < m → (nth t (m - 1)).at_ < (nth t m).at_
structure ChAt (rl : List Chc) (j : Nat) : Prop where
  ph : phonesOk (nth rl j).pl 3 = true
  two : (nth rl j).tl.length ≤ 2
  emp : (nth rl j).tl.length = 0 ↔ j + 1 = rl.length
  cs : ∀ m, m < (nth rl j).tl.length → CdAt (nth rl j).tl m
structure LeAt (bl : List Let) (k : Nat) : Prop where
  c : possC (nth bl k).c = true
  lt : 0 < k → (nth bl (k - 1)).c < (nth bl k).c
  l1 : 1 ≤ (nth bl k).rl.length
  l2 : (nth bl k).rl.length ≤ 1000
  rs : ∀ j, j < (nth bl k).rl.length → ChAt (nth bl k).rl j
theorem tests_iff {t : List Cond} : testsOk t = true ↔ ∀ m, m < t.length → CdAt t m := by
  unfold testsOk
  simp only [Bool.and_eq_true, List.all_eq_true]
  constructor
  · intro ⟨h1, h2⟩ m hm
    exact ⟨h1 _ (nth_mem hm), fun h0 => by have := riseB_yes.1 h2 m (by omega) hm; omega⟩
  · intro h
    refine ⟨fun x hx => ?_, riseB_yes.2 fun m h1 h2 => by have := (h m h2).lt (by omega); omega⟩
    obtain ⟨m, hm, rfl⟩ := List.getElem_of_mem hx
    have := (h m hm).ok
    rwa [nth_get hm] at this
theorem chc_iff {rl : List Chc} {j : Nat} : chcOk (decide (j + 1 = rl.length)) (nth rl j) = true ↔ ChAt rl j := by
  unfold chcOk
  simp only [Bool.and_eq_true, beq_iff_eq, decide_eq_true_eq, decide_eq_decide]
  constructor
  · intro ⟨⟨⟨h1, h2⟩, h3⟩, h4⟩
    exact ⟨h4, h2, h1, tests_iff.1 h3⟩
  · intro h
    exact ⟨⟨⟨h.emp, h.two⟩, tests_iff.2 h.cs⟩, h.ph⟩
theorem book_iff {bl : List Let} : bookOk bl = true ↔ ∀ k, k < bl.length → LeAt bl k := by
  unfold bookOk
  simp only [Bool.and_eq_true, List.all_eq_true]
  have key : ∀ L : Let, letOk L = true ↔ possC L.c = true ∧ 1 ≤ L.rl.length ∧ L.rl.length ≤ 1000 ∧ ∀ j, j < L.rl.length → ChAt L.rl j := fun L => by
    unfold letOk
    simp only [Bool.and_eq_true, List.all_eq_true, decide_eq_true_eq, List.mem_range, chc_iff]
    exact ⟨fun h => ⟨h.1.1.1, h.1.1.2, h.1.2, h.2⟩, fun h => ⟨⟨⟨h.1, h.2.1⟩, h.2.2.1⟩, h.2.2.2⟩⟩
  constructor
  · intro ⟨h1, h2⟩ k hk
    obtain ⟨g1, g2, g3, g4⟩ := (key _).1 (h2 _ (nth_mem hk))
    exact ⟨g1, fun h0 => by have := riseB_yes.1 h1 k (by omega) hk; rw [sgn_neg] at this; omega, g2, g3, g4⟩
  · intro h
    refine ⟨riseB_yes.2 fun k h1 h2 => by rw [sgn_neg]; have := (h k h2).lt (by omega); omega, fun L hL => ?_⟩
    obtain ⟨k, hk, rfl⟩ := List.getElem_of_mem hL
    rw [key, ← nth_get hk]
    have := h k hk
    exact ⟨this.c, this.l1, this.l2, this.rs⟩
theorem refBook_spec (b : Bk) (hz : ∀ L ∈ b.bl, ∀ r ∈ L.rl, ∀ p ∈ r.pl, p.size ≤ 9223372036854775807) (w : World) (hb : Stb w [] (BkIn b)) : Calls Tryz.prog 41 #[val b] w fun e w' => e = .returned (.bool (bookOk b.bl)) ∧ Cl w [] [] w' := by
  have hB := rd_stb hb.here.1
  have hL := rd_len hB.here
  refine calls_cw (vs := [_]) Tryz.func41 rfl Tryz.ntmps41 rfl (Cl.start0 w) (cw_seq (cw_region ?_))
  refine sw_x rfl rfl rfl (e_box rfl rfl rfl) (fun b1 => ?_)
  refine sr rfl rfl rfl ((q_assign rfl rfl)) (sw_nil (post_then (cw_seq (cw_seq (cw_region (sr rfl rfl rfl ((q_assign rfl rfl)) (sw_nil (post_then (cw_block ?_)))))))))
  refine cw_loop (S := Nat) (fun k => [(1, [], .pointer (some ⟨b1, 0, none⟩)), (3, [], .int .i64 k)]) (fun _ => Cl w [] [blk b1 [b.b.v] 45]) (fun k => k ≤ b.bl.length ∧ ∀ j, j < k → LeAt b.bl j) (fun k => b.bl.length - k) 0 ⟨by omega, fun j hj => by omega⟩ (by exact .cons rfl (.cons rfl .nil)) (fun w h => Cl.sel (by exact .take 0 rfl (.nil _)) w h) ?_
  rintro k ⟨hk, hbe⟩
  refine cw_seq (cw_seq (cw_region (sr rfl rfl rfl ((q_move rfl rfl)) (sr rfl rfl rfl ((q_fieldAddr rfl rfl)) ?_))))
  refine sr rfl rfl rfl ((q_loadC rfl rfl (by exact .head _) rfl)) ?_
  refine sr rfl rfl rfl ((q_len rfl (.cons rfl inferInstance (.nil)) (by exact fun w hw => Stb.cl (by assumption) hw))) ?_
  refine sr rfl rfl rfl ((q_lss rfl rfl rfl)) (sw_nil (post_then ?_))
  refine cw_cond rfl (fun h => ?_) (fun h => ?_)
  · skip
    have hk' : k < b.bl.length := by simp at h; omega
    have hno : ¬ LeAt b.bl k → bookOk b.bl = false := fun hn => by
      cases hx : bookOk b.bl with
      | false => rfl
      | true => exact absurd (book_iff.1 hx k hk') hn
    have e1 : 0 < k → ((k : Int) - 1).toNat = k - 1 := fun h0 => by omega
    have hLi := hb.here.2 _ (nth_mem hk')
    have hzi := hz _ (nth_mem hk')
    obtain ⟨L, hLe⟩ : ∃ L, nth b.bl k = L := ⟨_, rfl⟩
    have hAt : ∀ hc : possC L.c = true, (0 < k → (nth b.bl (k - 1)).c < L.c) → 1 ≤ L.rl.length → L.rl.length ≤ 1000 → (∀ j, j < L.rl.length → ChAt L.rl j) → LeAt b.bl k := fun a1 a2 a3 a4 a5 => by
      subst hLe; exact ⟨a1, a2, a3, a4, a5⟩
    have hAf : LeAt b.bl k → possC L.c = true ∧ (0 < k → (nth b.bl (k - 1)).c < L.c) ∧ 1 ≤ L.rl.length ∧ L.rl.length ≤ 1000 ∧ (∀ j, j < L.rl.length → ChAt L.rl j) := fun hh => by
      subst hLe; exact ⟨hh.c, hh.lt, hh.l1, hh.l2, hh.rs⟩
    rw [hLe] at hLi hzi
    have hR := rd_stb hLi.1
    have hRl := rd_len hR.here
    refine cw_skip (post_then (cw_seq (cw_block (cw_seq (cw_region (sr rfl rfl rfl ((q_fieldAddr rfl rfl)) ?_))))))
    refine sr rfl rfl rfl ((q_loadC rfl rfl (by exact .head _) rfl)) ?_
    refine sr rfl rfl rfl ((q_move rfl rfl)) ?_
    refine sr rfl rfl rfl ((q_indexN rfl rfl rfl (by exact fun w hw => Stb.cl (by assumption) hw) (by intro hc; omega))) ?_
    refine sr rfl rfl rfl ((q_loadEl rfl rfl rfl (by exact fun w hw => Stb.cl (by assumption) hw) (by intro hc; omega))) ?_
    rw [hLe]
    refine sw_x rfl rfl rfl (e_alloc rfl) (fun b4 => ?_)
    refine sw_eff0 rfl rfl (e_store (i := 0) rfl rfl rfl rfl rfl rfl rfl rfl) (sw_nil (post_then (cw_seq (cw_seq ?_))))
    refine cw_region_q mixed_Tryz (by kernel_rfl) ?_
    refine qr rfl rfl rfl ((q_fieldAddr rfl rfl)) ?_
    refine qr rfl rfl rfl ((q_loadC rfl rfl (by exact .head _) rfl)) ?_
    refine qw_step rfl rfl rfl (q_call (CanCall.mk Tryz.call66) rfl (.cons rfl inferInstance (.nil)) (fun _ w hw => callq hw (refLetter_spec _ w))) (qr rfl rfl rfl ((q_not rfl rfl)) (qr rfl rfl rfl ((q_move rfl rfl)) (qr rfl rfl rfl ((q_move rfl rfl)) (qr rfl rfl rfl ((q_gtr rfl rfl rfl)) (qr rfl rfl rfl ((q_move rfl rfl)) (qr rfl rfl rfl ((q_fieldAddr rfl rfl)) ?_))))))
    refine qr rfl rfl rfl ((q_loadC rfl rfl (by exact .head _) rfl)) ?_
    refine qr rfl rfl rfl ((q_fieldAddr rfl rfl)) ?_
    refine qr rfl rfl rfl ((q_loadC rfl rfl (by exact .tail _ (.head _)) rfl)) ?_
    refine qr rfl rfl rfl ((q_move rfl rfl)) ?_
    refine qr rfl rfl rfl ((q_sub rfl rfl rfl (by intro hc; omega))) ?_
    refine qr rfl rfl rfl ((q_index rfl rfl rfl (by exact fun w hw => Stb.cl (by assumption) hw) (by intro hc; (simp only [AllT.iff, List.all_cons, List.all_nil, id, Bool.and_eq_true, Bool.not_eq_true', decide_eq_true_eq, decide_eq_false_iff_not, and_true] at hc; omega)))) ?_
    refine qr rfl rfl rfl ((q_fieldEl rfl rfl (by exact fun w hw => Stb.cl (by assumption) hw) (by intro hc; omega))) ?_
    refine qr rfl rfl rfl ((q_loadF rfl rfl rfl (by exact fun w hw => Stb.cl (by assumption) hw) (by intro hc; omega) rfl)) ?_
    refine qr rfl rfl rfl ((q_leq rfl rfl rfl)) (qr rfl rfl rfl ((q_and2 rfl rfl rfl)) (qr rfl rfl rfl ((q_or2 rfl rfl rfl)) (qr rfl rfl rfl ((q_move rfl rfl)) (qr rfl rfl rfl ((q_fieldAddr rfl rfl)) ?_))))
    refine qr rfl rfl rfl ((q_loadC rfl rfl (by exact .head _) rfl)) ?_
    refine qr rfl rfl rfl ((q_len rfl (.cons rfl inferInstance (.nil)) (by exact fun w hw => Stb.cl (by assumption) hw))) ?_
    refine qr rfl rfl rfl ((q_lss rfl rfl rfl)) (qr rfl rfl rfl ((q_or2 rfl rfl rfl)) (qr rfl rfl rfl ((q_move rfl rfl)) (qr rfl rfl rfl ((q_fieldAddr rfl rfl)) ?_)))
    refine qr rfl rfl rfl ((q_loadC rfl rfl (by exact .head _) rfl)) ?_
    refine qr rfl rfl rfl ((q_len rfl (.cons rfl inferInstance (.nil)) (by exact fun w hw => Stb.cl (by assumption) hw))) ?_
    refine qr rfl rfl rfl ((q_gtr rfl rfl rfl)) (qr rfl rfl rfl ((q_or2 rfl rfl rfl)) (qw_end (post_then ?_)))
    refine cw_cond rfl (fun h2 => ?_) (fun h2 => ?_)
    · skip
      have hf : bookOk b.bl = false := hno fun hh => by
        obtain ⟨f1, f2, f3, f4, _⟩ := hAf hh
        by_cases hk0 : 0 < k
        · have f2 := f2 hk0
          rw [e1 hk0] at h2
          simp [f1, hk0] at h2
          omega
        · have hk1 : k = 0 := by omega
          subst hk1
          simp [f1] at h2
          omega
      refine cw_seq (cw_region (sr rfl rfl rfl ((q_assign rfl rfl)) (sw_nil (post_then (cw_ret (post_then_r (post_blk_r (post_then_r (post_then_r (post_blk_r (post_then_r (post_ret1 rfl (resOk_tmp rfl) ?_))))))))))))
      exact fun w' hw => ⟨by rw [hf], (fun w h => Cl.sel (by exact .nil _) w h) _ hw⟩
    · skip
      have h3 : possC L.c = true ∧ (0 < k → (nth b.bl (k - 1)).c < L.c) ∧ 1 ≤ L.rl.length ∧ L.rl.length ≤ 1000 := by
        by_cases hk0 : 0 < k
        · rw [e1 hk0] at h2
          simp [hk0] at h2
          exact ⟨h2.1.1.1, fun _ => by omega, by omega, by omega⟩
        · have hk1 : k = 0 := by omega
          subst hk1
          simp at h2
          exact ⟨h2.1.1, fun h0 => by omega, by omega, by omega⟩
      refine cw_skip (post_then (cw_seq (cw_region (sr rfl rfl rfl ((q_assign rfl rfl)) (sw_nil (post_then (cw_block ?_)))))))
      refine cw_loop (S := Nat) (fun j => [(1, [], .pointer (some ⟨b1, 0, none⟩)), (3, [], .int .i64 k), (4, [], .pointer (some ⟨b4, 0, none⟩)), (5, [], .int .i64 j)]) (fun _ => Cl w [] [blk b4 (enc L) 61, blk b1 [b.b.v] 45]) (fun j => j ≤ L.rl.length ∧ ∀ i, i < j → ChAt L.rl i) (fun j => L.rl.length - j) 0 ⟨by omega, fun j hj => by omega⟩ (by exact .cons rfl (.cons rfl (.cons rfl (.cons rfl .nil)))) (fun w h => Cl.sel (by exact .take 0 rfl (.take 0 rfl (.nil _))) w h) ?_
      rintro j ⟨hj, hbj⟩
      refine cw_seq (cw_seq (cw_region (sr rfl rfl rfl ((q_move rfl rfl)) (sr rfl rfl rfl ((q_fieldAddr rfl rfl)) ?_))))
      refine sr rfl rfl rfl ((q_loadC rfl rfl (by exact .head _) rfl)) ?_
      refine sr rfl rfl rfl ((q_len rfl (.cons rfl inferInstance (.nil)) (by exact fun w hw => Stb.cl (by assumption) hw))) ?_
      refine sr rfl rfl rfl ((q_lss rfl rfl rfl)) (sw_nil (post_then ?_))
      refine cw_cond rfl (fun h4 => ?_) (fun h4 => ?_)
      · skip
        have hj' : j < L.rl.length := by simp at h4; omega
        have hno2 : ¬ ChAt L.rl j → bookOk b.bl = false := fun hn => hno fun hh => hn ((hAf hh).2.2.2.2 j hj')
        have hC := hLi.2 _ (nth_mem hj')
        have hC1 := rd_stb hC.1
        have hC2 := rd_stb hC.2
        have hC1l := rd_len hC1.here
        have hzp := hzi _ (nth_mem hj')
        refine cw_skip (post_then (cw_seq (cw_block (cw_seq (cw_region (sr rfl rfl rfl ((q_fieldAddr rfl rfl)) ?_))))))
        refine sr rfl rfl rfl ((q_loadC rfl rfl (by exact .head _) rfl)) ?_
        refine sr rfl rfl rfl ((q_move rfl rfl)) ?_
        refine sr rfl rfl rfl ((q_indexN rfl rfl rfl (by exact fun w hw => Stb.cl (by assumption) hw) (by intro hc; omega))) ?_
        refine sr rfl rfl rfl ((q_fieldEl rfl rfl (by exact fun w hw => Stb.cl (by assumption) hw) (by intro hc; omega))) ?_
        refine sr rfl rfl rfl ((q_loadF rfl rfl rfl (by exact fun w hw => Stb.cl (by assumption) hw) (by intro hc; omega) rfl)) ?_
        refine sr rfl rfl rfl ((q_assign rfl rfl)) (sw_nil (post_then (cw_seq (cw_seq (cw_region (sr rfl rfl rfl ((q_fieldAddr rfl rfl)) ?_))))))
        refine sr rfl rfl rfl ((q_loadC rfl rfl (by exact .head _) rfl)) ?_
        refine sr rfl rfl rfl ((q_move rfl rfl)) ?_
        refine sr rfl rfl rfl ((q_indexN rfl rfl rfl (by exact fun w hw => Stb.cl (by assumption) hw) (by intro hc; omega))) ?_
        refine sr rfl rfl rfl ((q_fieldEl rfl rfl (by exact fun w hw => Stb.cl (by assumption) hw) (by intro hc; omega))) ?_
        refine sr rfl rfl rfl ((q_loadF rfl rfl rfl (by exact fun w hw => Stb.cl (by assumption) hw) (by intro hc; omega) rfl)) ?_
        refine sw_step rfl rfl rfl (q_call (CanCall.mk Tryz.call23) rfl (.cons rfl inferInstance (.cons rfl inferInstance (.nil))) (fun _ w hw => callq hw (refPhones_spec _ _ _ w (by exact stb_arg hw (by assumption)) (by assumption)))) ?_
        refine sr rfl rfl rfl ((q_not rfl rfl)) (sr rfl rfl rfl ((q_move rfl rfl)) (sr rfl rfl rfl ((q_move rfl rfl)) ?_))
        refine sr rfl rfl rfl ((q_len rfl (.cons rfl inferInstance (.nil)) (by exact fun w hw => Stb.cl (by assumption) hw))) ?_
        refine sr rfl rfl rfl ((q_gtr rfl rfl rfl)) (sr rfl rfl rfl ((q_or2 rfl rfl rfl)) (sr rfl rfl rfl ((q_move rfl rfl)) (sr rfl rfl rfl ((q_move rfl rfl)) ?_)))
        refine sr rfl rfl rfl ((q_len rfl (.cons rfl inferInstance (.nil)) (by exact fun w hw => Stb.cl (by assumption) hw))) ?_
        refine sr rfl rfl rfl ((q_eql rfl rfl rfl)) (sr rfl rfl rfl ((q_move rfl rfl)) (sr rfl rfl rfl ((q_fieldAddr rfl rfl)) ?_))
        refine sr rfl rfl rfl ((q_loadC rfl rfl (by exact .head _) rfl)) ?_
        refine sr rfl rfl rfl ((q_len rfl (.cons rfl inferInstance (.nil)) (by exact fun w hw => Stb.cl (by assumption) hw))) ?_
        refine sr rfl rfl rfl ((q_sub rfl rfl rfl (by intro hc; omega))) ?_
        refine sr rfl rfl rfl ((q_eql rfl rfl rfl)) (sr rfl rfl rfl ((q_neq_b rfl rfl rfl Tryz.underlying4)) (sr rfl rfl rfl ((q_or2 rfl rfl rfl)) (sw_nil (post_then ?_))))
        have e2 : decide ((j : Int) = (L.rl.length : Int) - 1) = decide (j + 1 = L.rl.length) := by rw [Bool.eq_iff_iff]; simp; omega
        refine cw_cond rfl (fun h5 => ?_) (fun h5 => ?_)
        · skip
          have hf : bookOk b.bl = false := hno2 fun hh => by
            have f3 := hh.emp
            simp [hh.ph] at h5
            rw [← List.length_eq_zero_iff] at h5
            have := hh.two
            omega
          refine cw_seq (cw_region (sr rfl rfl rfl ((q_assign rfl rfl)) (sw_nil (post_then (cw_ret (post_then_r (post_blk_r (post_then_r (post_then_r (post_blk_r (post_blk_r (post_then_r (post_then_r (post_blk_r (post_then_r (post_ret1 rfl (resOk_tmp rfl) ?_))))))))))))))))
          exact fun w' hw => ⟨by rw [hf], (fun w h => Cl.sel (by exact .nil _) w h) _ hw⟩
        · skip
          have h6 : phonesOk (nth L.rl j).pl 3 = true ∧ (nth L.rl j).tl.length ≤ 2 ∧ ((nth L.rl j).tl.length = 0 ↔ j + 1 = L.rl.length) := by
            simp at h5
            rw [← List.length_eq_zero_iff] at h5
            exact ⟨h5.1.1, by omega, by omega⟩
          refine cw_skip (post_then (cw_seq (cw_region (sr rfl rfl rfl ((q_assign rfl rfl)) (sw_nil (post_then (cw_block ?_)))))))
          refine cw_loop (S := Nat) (fun m => [(1, [], .pointer (some ⟨b1, 0, none⟩)), (3, [], .int .i64 k), (4, [], .pointer (some ⟨b4, 0, none⟩)), (5, [], .int .i64 j), (6, [], (nth L.rl j).t.v), (7, [], .int .i64 m)]) (fun _ => Cl w [] [blk b4 (enc L) 61, blk b1 [b.b.v] 45]) (fun m => m ≤ (nth L.rl j).tl.length ∧ ∀ i, i < m → CdAt (nth L.rl j).tl i) (fun m => (nth L.rl j).tl.length - m) 0 ⟨by omega, fun m hm => by omega⟩ (by exact .cons rfl (.cons rfl (.cons rfl (.cons rfl (.cons rfl (.cons rfl .nil)))))) (fun w h => Cl.sel (by exact .take 0 rfl (.take 0 rfl (.nil _))) w h) ?_
          rintro m ⟨hm, hbm⟩
          refine cw_seq (cw_seq (cw_region (sr rfl rfl rfl ((q_move rfl rfl)) (sr rfl rfl rfl ((q_move rfl rfl)) ?_))))
          refine sr rfl rfl rfl ((q_len rfl (.cons rfl inferInstance (.nil)) (by exact fun w hw => Stb.cl (by assumption) hw))) ?_
          refine sr rfl rfl rfl ((q_lss rfl rfl rfl)) (sw_nil (post_then ?_))
          refine cw_cond rfl (fun h7 => ?_) (fun h7 => ?_)
          · skip
            have hm' : m < (nth L.rl j).tl.length := by simp at h7; omega
            have e3 : 0 < m → ((m : Int) - 1).toNat = m - 1 := fun h0 => by omega
            refine cw_skip (post_then (cw_seq (cw_block (cw_seq ?_))))
            refine cw_region_q mixed_Tryz (by kernel_rfl) ?_
            refine qr rfl rfl rfl ((q_move rfl rfl)) (qr rfl rfl rfl ((q_move rfl rfl)) ?_)
            refine qr rfl rfl rfl ((q_indexN rfl rfl rfl (by exact fun w hw => Stb.cl (by assumption) hw) (by intro hc; omega))) ?_
            refine qr rfl rfl rfl ((q_fieldEl rfl rfl (by exact fun w hw => Stb.cl (by assumption) hw) (by intro hc; omega))) ?_
            refine qr rfl rfl rfl ((q_loadF rfl rfl rfl (by exact fun w hw => Stb.cl (by assumption) hw) (by intro hc; omega) rfl)) ?_
            refine qr rfl rfl rfl ((q_lss rfl rfl rfl)) (qr rfl rfl rfl ((q_move rfl rfl)) (qr rfl rfl rfl ((q_move rfl rfl)) (qr rfl rfl rfl ((q_move rfl rfl)) ?_)))
            refine qr rfl rfl rfl ((q_indexN rfl rfl rfl (by exact fun w hw => Stb.cl (by assumption) hw) (by intro hc; omega))) ?_
            refine qr rfl rfl rfl ((q_fieldEl rfl rfl (by exact fun w hw => Stb.cl (by assumption) hw) (by intro hc; omega))) ?_
            refine qr rfl rfl rfl ((q_loadF rfl rfl rfl (by exact fun w hw => Stb.cl (by assumption) hw) (by intro hc; omega) rfl)) ?_
            refine qr rfl rfl rfl ((q_gtr rfl rfl rfl)) (qr rfl rfl rfl ((q_or2 rfl rfl rfl)) (qr rfl rfl rfl ((q_move rfl rfl)) (qr rfl rfl rfl ((q_move rfl rfl)) (qr rfl rfl rfl ((q_move rfl rfl)) ?_))))
            refine qr rfl rfl rfl ((q_indexN rfl rfl rfl (by exact fun w hw => Stb.cl (by assumption) hw) (by intro hc; omega))) ?_
            refine qr rfl rfl rfl ((q_fieldEl rfl rfl (by exact fun w hw => Stb.cl (by assumption) hw) (by intro hc; omega))) ?_
            refine qr rfl rfl rfl ((q_loadF rfl rfl rfl (by exact fun w hw => Stb.cl (by assumption) hw) (by intro hc; omega) rfl)) ?_
            refine qr rfl rfl rfl ((q_eql rfl rfl rfl)) (qr rfl rfl rfl ((q_or2 rfl rfl rfl)) (qr rfl rfl rfl ((q_move rfl rfl)) (qr rfl rfl rfl ((q_move rfl rfl)) (qr rfl rfl rfl ((q_move rfl rfl)) ?_))))
            refine qr rfl rfl rfl ((q_indexN rfl rfl rfl (by exact fun w hw => Stb.cl (by assumption) hw) (by intro hc; omega))) ?_
            refine qr rfl rfl rfl ((q_fieldEl rfl rfl (by exact fun w hw => Stb.cl (by assumption) hw) (by intro hc; omega))) ?_
            refine qr rfl rfl rfl ((q_loadF rfl rfl rfl (by exact fun w hw => Stb.cl (by assumption) hw) (by intro hc; omega) rfl)) ?_
            refine qr rfl rfl rfl ((q_neq rfl rfl rfl)) (qr rfl rfl rfl ((q_move rfl rfl)) (qr rfl rfl rfl ((q_move rfl rfl)) (qr rfl rfl rfl ((q_move rfl rfl)) ?_)))
            refine qr rfl rfl rfl ((q_indexN rfl rfl rfl (by exact fun w hw => Stb.cl (by assumption) hw) (by intro hc; omega))) ?_
            refine qr rfl rfl rfl ((q_fieldEl rfl rfl (by exact fun w hw => Stb.cl (by assumption) hw) (by intro hc; omega))) ?_
            refine qr rfl rfl rfl ((q_loadF rfl rfl rfl (by exact fun w hw => Stb.cl (by assumption) hw) (by intro hc; omega) rfl)) ?_
            refine qw_step rfl rfl rfl (q_call (CanCall.mk Tryz.call66) rfl (.cons rfl inferInstance (.nil)) (fun _ w hw => callq hw (refLetter_spec _ w))) (qr rfl rfl rfl ((q_not rfl rfl)) (qr rfl rfl rfl ((q_and2 rfl rfl rfl)) (qr rfl rfl rfl ((q_or2 rfl rfl rfl)) (qr rfl rfl rfl ((q_move rfl rfl)) (qr rfl rfl rfl ((q_move rfl rfl)) (qr rfl rfl rfl ((q_gtr rfl rfl rfl)) (qr rfl rfl rfl ((q_move rfl rfl)) (qr rfl rfl rfl ((q_move rfl rfl)) (qr rfl rfl rfl ((q_move rfl rfl)) ?_)))))))))
            refine qr rfl rfl rfl ((q_indexN rfl rfl rfl (by exact fun w hw => Stb.cl (by assumption) hw) (by intro hc; omega))) ?_
            refine qr rfl rfl rfl ((q_fieldEl rfl rfl (by exact fun w hw => Stb.cl (by assumption) hw) (by intro hc; omega))) ?_
            refine qr rfl rfl rfl ((q_loadF rfl rfl rfl (by exact fun w hw => Stb.cl (by assumption) hw) (by intro hc; omega) rfl)) ?_
            refine qr rfl rfl rfl ((q_move rfl rfl)) (qr rfl rfl rfl ((q_move rfl rfl)) ?_)
            refine qr rfl rfl rfl ((q_sub rfl rfl rfl (by intro hc; omega))) ?_
            refine qr rfl rfl rfl ((q_index rfl rfl rfl (by exact fun w hw => Stb.cl (by assumption) hw) (by intro hc; (simp only [AllT.iff, List.all_cons, List.all_nil, id, Bool.and_eq_true, Bool.not_eq_true', decide_eq_true_eq, decide_eq_false_iff_not, and_true] at hc; omega)))) ?_
            refine qr rfl rfl rfl ((q_fieldEl rfl rfl (by exact fun w hw => Stb.cl (by assumption) hw) (by intro hc; omega))) ?_
            refine qr rfl rfl rfl ((q_loadF rfl rfl rfl (by exact fun w hw => Stb.cl (by assumption) hw) (by intro hc; omega) rfl)) ?_
            refine qr rfl rfl rfl ((q_leq rfl rfl rfl)) (qr rfl rfl rfl ((q_and2 rfl rfl rfl)) (qr rfl rfl rfl ((q_or2 rfl rfl rfl)) (qw_end (post_then ?_))))
            refine cw_cond rfl (fun h8 => ?_) (fun h8 => ?_)
            · skip
              have hf : bookOk b.bl = false := hno2 fun hh => by
                obtain ⟨f1, f2⟩ := hh.cs m hm'
                unfold condOk at f1
                simp at f1
                by_cases hm0 : 0 < m
                · have f2 := f2 hm0
                  rw [e3 hm0] at h8
                  rcases f1.2 with f3 | f3 <;> simp [f3, hm0] at h8 <;> omega
                · have hm1 : m = 0 := by omega
                  subst hm1
                  rcases f1.2 with f3 | f3 <;> simp [f3] at h8 <;> omega
              refine cw_seq (cw_region (sr rfl rfl rfl ((q_assign rfl rfl)) (sw_nil (post_then (cw_ret (post_blk_r (post_then_r (post_then_r (post_blk_r (post_blk_r (post_then_r (post_then_r (post_blk_r (post_blk_r (post_then_r (post_then_r (post_blk_r (post_then_r (post_ret1 rfl (resOk_tmp rfl) ?_)))))))))))))))))))
              exact fun w' hw => ⟨by rw [hf], (fun w h => Cl.sel (by exact .nil _) w h) _ hw⟩
            · skip
              have h9 : CdAt (nth L.rl j).tl m := by
                by_cases hm0 : 0 < m
                · rw [e3 hm0] at h8
                  simp [hm0] at h8
                  refine ⟨?_, fun _ => by omega⟩
                  unfold condOk
                  simp
                  refine ⟨by omega, ?_⟩
                  by_cases f3 : (nth (nth L.rl j).tl m).c = 0
                  · exact .inl f3
                  · exact .inr (h8.1.2 f3)
                · have hm1 : m = 0 := by omega
                  subst hm1
                  simp at h8
                  refine ⟨?_, fun _ => by omega⟩
                  unfold condOk
                  simp
                  refine ⟨by omega, ?_⟩
                  by_cases f3 : (nth (nth L.rl j).tl 0).c = 0
                  · exact .inl f3
                  · exact .inr (h8.2 f3)
              refine cw_skip (post_blk (post_then (cw_region (sr rfl rfl rfl ((q_move rfl rfl)) ?_))))
              refine sr rfl rfl rfl ((q_add rfl rfl rfl (by intro hc; omega))) ?_
              refine sr rfl rfl rfl ((q_assign rfl rfl)) (sw_nil ?_)
              exact post_next (m + 1) (by exact .cons rfl (.cons rfl (.cons rfl (.cons rfl (.cons rfl (.cons rfl .nil)))))) (fun w h => Cl.sel (by exact .take 0 rfl (.take 0 rfl (.nil _))) w h) ⟨by omega, fun i hi => by
                rcases Nat.lt_or_ge i m with h6 | h6
                · exact hbm i h6
                · have : i = m := by omega
                  subst this; exact h9⟩ (by omega)
          · skip
            have hm' : m = (nth L.rl j).tl.length := by simp at h7; omega
            subst hm'
            have h9 : ChAt L.rl j := ⟨h6.1, h6.2.1, h6.2.2, hbm⟩
            refine cw_exit (post_then_x (post_then_x (post_blk_eq (post_blk (post_then (cw_region (sr rfl rfl rfl ((q_move rfl rfl)) ?_)))))))
            refine sr rfl rfl rfl ((q_add rfl rfl rfl (by intro hc; omega))) ?_
            refine sr rfl rfl rfl ((q_assign rfl rfl)) (sw_nil ?_)
            exact post_next (j + 1) (by exact .cons rfl (.cons rfl (.cons rfl (.cons rfl .nil)))) (fun w h => Cl.sel (by exact .take 0 rfl (.take 0 rfl (.nil _))) w h) ⟨by omega, fun i hi => by
              rcases Nat.lt_or_ge i j with h6 | h6
              · exact hbj i h6
              · have : i = j := by omega
                subst this; exact h9⟩ (by omega)
      · skip
        have hj' : j = L.rl.length := by simp at h4; omega
        subst hj'
        have h9 : LeAt b.bl k := hAt h3.1 h3.2.1 h3.2.2.1 h3.2.2.2 hbj
        refine cw_exit (post_then_x (post_then_x (post_blk_eq (post_blk (post_then (cw_region (sr rfl rfl rfl ((q_move rfl rfl)) ?_)))))))
        refine sr rfl rfl rfl ((q_add rfl rfl rfl (by intro hc; omega))) ?_
        refine sr rfl rfl rfl ((q_assign rfl rfl)) (sw_nil ?_)
        exact post_next (k + 1) (by exact .cons rfl (.cons rfl .nil)) (fun w h => Cl.sel (by exact .take 1 rfl (.nil _)) w h) ⟨by omega, fun i hi => by
          rcases Nat.lt_or_ge i k with h6 | h6
          · exact hbe i h6
          · have : i = k := by omega
            subst this; exact h9⟩ (by omega)
  · skip
    have hk' : k = b.bl.length := by simp at h; omega
    subst hk'
    have hf : bookOk b.bl = true := book_iff.2 hbe
    refine cw_exit (post_then_x (post_then_x (post_blk_eq (post_then (cw_seq (cw_region (sr rfl rfl rfl ((q_assign rfl rfl)) (sw_nil (post_then (cw_ret (post_ret1 rfl (resOk_tmp rfl) ?_)))))))))))
    exact fun w' hw => ⟨by rw [hf], (fun w h => Cl.sel (by exact .nil _) w h) _ hw⟩
end Go.Proofs.YtkmbliojafefdaaGreatDoor

set_option autoImplicit false
set_option maxRecDepth 100000
namespace Go.Proofs.YtkmbliojafefdaaGreatDoor
open Go.Sx
open Enc (enc val)
theorem near_spec (x : XR) (d : Int) (hx : 0 ≤ x.at_ ∧ x.at_ ≤ 1000000) (hd : -1000 ≤ d ∧ d ≤ 1000) (w : World) (hw : Stb w [] (RdL x.w.v x.wl)) : Calls Tryz.prog 78 #[val x, .int .i64 d] w fun e w' => e = .returned (.int .i32 (lookC x.wl (x.at_ + d))) ∧ Cl w [] [] w' := by
  have hL := rd_len hw.here
  refine calls_cw (vs := [_, _]) Tryz.func78 rfl Tryz.ntmps78 rfl (Cl.start0 w) (cw_seq (cw_region ?_))
  refine sw_x rfl rfl rfl (e_box rfl rfl rfl) (fun b2 => ?_)
  refine sr rfl rfl rfl ((q_assign rfl rfl)) (sw_nil (post_then (cw_seq (cw_seq (cw_region (sr rfl rfl rfl ((q_fieldAddr rfl rfl)) ?_))))))
  refine sr rfl rfl rfl ((q_loadC rfl rfl (by exact .head _) rfl)) ?_
  refine sr rfl rfl rfl ((q_move rfl rfl)) ?_
  refine sr rfl rfl rfl ((q_add rfl rfl rfl (by intro hc; omega))) ?_
  refine sr rfl rfl rfl ((q_lss rfl rfl rfl)) (sr rfl rfl rfl ((q_move rfl rfl)) (sr rfl rfl rfl ((q_fieldAddr rfl rfl)) ?_))
  refine sr rfl rfl rfl ((q_loadC rfl rfl (by exact .head _) rfl)) ?_
  refine sr rfl rfl rfl ((q_move rfl rfl)) ?_
  refine sr rfl rfl rfl ((q_add rfl rfl rfl (by intro hc; omega))) ?_
  refine sr rfl rfl rfl ((q_fieldAddr rfl rfl)) ?_
  refine sr rfl rfl rfl ((q_loadC rfl rfl (by exact .head _) rfl)) ?_
  refine sr rfl rfl rfl ((q_len rfl (.cons rfl inferInstance (.nil)) (by exact fun w hw => Stb.cl (by assumption) hw))) ?_
  refine sr rfl rfl rfl ((q_geq rfl rfl rfl)) (sr rfl rfl rfl ((q_or2 rfl rfl rfl)) (sw_nil (post_then ?_)))
  refine cw_cond rfl (fun h => ?_) (fun h => ?_)
  · skip
    have e1 : lookC x.wl (x.at_ + d) = 0 := by unfold lookC; rw [if_pos (by simp at h; omega)]
    refine cw_seq (cw_region (sr rfl rfl rfl ((q_assign rfl rfl)) (sw_nil (post_then (cw_ret (post_then_r (post_ret1 rfl (resOk_tmp rfl) ?_)))))))
    exact fun w' hw => ⟨by rw [e1], (fun w h => Cl.sel (by exact .nil _) w h) _ hw⟩
  · skip
    have h1 : 0 ≤ x.at_ + d ∧ x.at_ + d < x.wl.length := by simp at h; omega
    have e1 : lookC x.wl (x.at_ + d) = (nth x.wl (x.at_ + d).toNat).v := by unfold lookC; rw [if_neg (by omega)]
    refine cw_skip (post_then (cw_seq (cw_region (sr rfl rfl rfl ((q_fieldAddr rfl rfl)) ?_))))
    refine sr rfl rfl rfl ((q_loadC rfl rfl (by exact .head _) rfl)) ?_
    refine sr rfl rfl rfl ((q_fieldAddr rfl rfl)) ?_
    refine sr rfl rfl rfl ((q_loadC rfl rfl (by exact .head _) rfl)) ?_
    refine sr rfl rfl rfl ((q_move rfl rfl)) ?_
    refine sr rfl rfl rfl ((q_add rfl rfl rfl (by intro hc; omega))) ?_
    refine sr rfl rfl rfl ((q_index rfl rfl rfl (by exact fun w hw => Stb.cl (by assumption) hw) (by intro hc; omega))) ?_
    refine sr rfl rfl rfl ((q_loadF rfl rfl rfl (by exact fun w hw => Stb.cl (by assumption) hw) (by intro hc; omega) rfl)) ?_
    refine sr rfl rfl rfl ((q_assign rfl rfl)) (sw_nil (post_then (cw_ret (post_ret1 rfl (resOk_tmp rfl) ?_))))
    exact fun w' hw => ⟨by first | (rw [e1]; rfl) | rw [e1], (fun w h => Cl.sel (by exact .nil _) w h) _ hw⟩
theorem holdsR_spec (sv : Value) (t : List Cond) (x : XR) (hx : 0 ≤ x.at_ ∧ x.at_ ≤ 1000000) (ht : ∀ c ∈ t, CondB c) (w : World) (hs : Stb w [] (RdL sv t)) (hw0 : Stb w [] (RdL x.w.v x.wl)) : Calls Tryz.prog 35 #[sv, val x] w fun e w' => e = .returned (.bool (holdsC x.wl x.at_ t)) ∧ Cl w [] [] w' := by
  have hL := rd_len hs.here
  refine calls_cw (vs := [_, _]) Tryz.func35 rfl Tryz.ntmps35 rfl (Cl.start0 w) (cw_seq (cw_region ?_))
  refine sw_x rfl rfl rfl (e_box rfl rfl rfl) (fun b3 => ?_)
  refine sr rfl rfl rfl ((q_assign rfl rfl)) (sw_nil (post_then (cw_seq (cw_seq (cw_region (sr rfl rfl rfl ((q_assign rfl rfl)) (sw_nil (post_then (cw_block ?_)))))))))
  refine cw_loop (S := Nat) (fun k => [(0, [], sv), (3, [], .pointer (some ⟨b3, 0, none⟩)), (5, [], .int .i64 k)]) (fun _ => Cl w [] [blk b3 (enc x) 58]) (fun k => k ≤ t.length ∧ ∀ j, j < k → decide (lookC x.wl (x.at_ + (nth t j).at_) = (nth t j).c) = true) (fun k => t.length - k) 0 ⟨by omega, fun j hj => by omega⟩ (by exact .cons rfl (.cons rfl (.cons rfl .nil))) (fun _ h => h) ?_
  rintro k ⟨hk, hbe⟩
  refine cw_seq (cw_seq (cw_region (sr rfl rfl rfl ((q_move rfl rfl)) (sr rfl rfl rfl ((q_move rfl rfl)) ?_))))
  refine sr rfl rfl rfl ((q_len rfl (.cons rfl inferInstance (.nil)) (by exact fun w hw => Stb.cl (by assumption) hw))) ?_
  refine sr rfl rfl rfl ((q_lss rfl rfl rfl)) (sw_nil (post_then ?_))
  refine cw_cond rfl (fun h => ?_) (fun h => ?_)
  · skip
    have hk' : k < t.length := by simp at h; omega
    have hc : -1000 ≤ (nth t k).at_ ∧ (nth t k).at_ ≤ 1000 := ht _ (nth_mem hk')
    refine cw_skip (post_then (cw_seq (cw_block (cw_seq (cw_region_a (Cl w [] [blk b3 (enc x) 58]) [] mixed_Tryz ?_)))))
    refine aw_take 0 (fun w h => Cl.sel (by exact .take 0 rfl (.nil _)) w h) rfl (by kernel_rfl) (by kernel_rfl) (by kernel_rfl) (by kernel_rfl) (by kernel_rfl) (by kernel_rfl) rfl rfl rfl (q_loadA rfl rfl (by exact .head _) rfl) ?_
    refine aw_pure 1 rfl (by kernel_rfl) (by kernel_rfl) (by kernel_rfl) (by kernel_rfl) (by kernel_rfl) rfl rfl rfl (q_move rfl rfl) ?_
    refine aw_pure 2 rfl (by kernel_rfl) (by kernel_rfl) (by kernel_rfl) (by kernel_rfl) (by kernel_rfl) rfl rfl rfl (q_move rfl rfl) ?_
    refine aw_take 3 (fun w h => Cl.sel (by exact .take 0 rfl (.nil _)) w h) rfl (by kernel_rfl) (by kernel_rfl) (by kernel_rfl) (by kernel_rfl) (by kernel_rfl) (by kernel_rfl) rfl rfl rfl (q_indexN rfl rfl rfl (by exact fun w hw => Stb.cl (by assumption) hw) (by intro hc; omega)) ?_
    refine aw_take 4 (fun w h => Cl.sel (by exact .take 0 rfl (.nil _)) w h) rfl (by kernel_rfl) (by kernel_rfl) (by kernel_rfl) (by kernel_rfl) (by kernel_rfl) (by kernel_rfl) rfl rfl rfl (q_fieldEl rfl rfl (by exact fun w hw => Stb.cl (by assumption) hw) (by intro hc; omega)) ?_
    refine aw_take 5 (fun w h => Cl.sel (by exact .take 0 rfl (.nil _)) w h) rfl (by kernel_rfl) (by kernel_rfl) (by kernel_rfl) (by kernel_rfl) (by kernel_rfl) (by kernel_rfl) rfl rfl rfl (q_loadF rfl rfl rfl (by exact fun w hw => Stb.cl (by assumption) hw) (by intro hc; omega) rfl) ?_
    refine aw_pure 7 rfl (by kernel_rfl) (by kernel_rfl) (by kernel_rfl) (by kernel_rfl) (by kernel_rfl) rfl rfl rfl (q_move rfl rfl) ?_
    refine aw_pure 8 rfl (by kernel_rfl) (by kernel_rfl) (by kernel_rfl) (by kernel_rfl) (by kernel_rfl) rfl rfl rfl (q_move rfl rfl) ?_
    refine aw_take 9 (fun w h => Cl.sel (by exact .take 0 rfl (.nil _)) w h) rfl (by kernel_rfl) (by kernel_rfl) (by kernel_rfl) (by kernel_rfl) (by kernel_rfl) (by kernel_rfl) rfl rfl rfl (q_indexN rfl rfl rfl (by exact fun w hw => Stb.cl (by assumption) hw) (by intro hc; omega)) ?_
    refine aw_take 10 (fun w h => Cl.sel (by exact .take 0 rfl (.nil _)) w h) rfl (by kernel_rfl) (by kernel_rfl) (by kernel_rfl) (by kernel_rfl) (by kernel_rfl) (by kernel_rfl) rfl rfl rfl (q_fieldEl rfl rfl (by exact fun w hw => Stb.cl (by assumption) hw) (by intro hc; omega)) ?_
    refine aw_take 11 (fun w h => Cl.sel (by exact .take 0 rfl (.nil _)) w h) rfl (by kernel_rfl) (by kernel_rfl) (by kernel_rfl) (by kernel_rfl) (by kernel_rfl) (by kernel_rfl) rfl rfl rfl (q_loadF rfl rfl rfl (by exact fun w hw => Stb.cl (by assumption) hw) (by intro hc; omega) rfl) ?_
    refine aw_q 6 (by kernel_rfl) rfl rfl rfl rfl (q_call (CanCall.mk Tryz.call78) rfl (.cons rfl inferInstance (.cons rfl inferInstance (.nil))) (fun _ w1 hw => callq hw (near_spec x (nth t k).at_ hx hc w1 (stb_arg hw hw0)))) (by intro hb; exact (fun w h => Cl.sel (by exact .take 0 rfl (.nil _)) w h)) ?_
    refine aw_pure 12 rfl (by kernel_rfl) (by kernel_rfl) (by kernel_rfl) (by kernel_rfl) (by kernel_rfl) rfl rfl rfl (q_neq rfl rfl rfl) ?_
    refine aw_end (by kernel_rfl) ?_
    refine post_then ?_
    refine cw_cond rfl (fun h2 => ?_) (fun h2 => ?_)
    · skip
      have e1 : holdsC x.wl x.at_ t = false := by unfold holdsC; exact all_no hk' (by simpa using h2)
      refine cw_seq (cw_region (sr rfl rfl rfl ((q_assign rfl rfl)) (sw_nil (post_then (cw_ret (post_blk_r (post_then_r (post_then_r (post_blk_r (post_then_r (post_ret1 rfl (resOk_tmp rfl) ?_)))))))))))
      exact fun w' hw => ⟨by rw [e1], (fun w h => Cl.sel (by exact .nil _) w h) _ hw⟩
    · skip
      have e1 : decide (lookC x.wl (x.at_ + (nth t k).at_) = (nth t k).c) = true := by simpa using h2
      refine cw_skip (post_blk (post_then (cw_region (sr rfl rfl rfl ((q_move rfl rfl)) ?_))))
      refine sr rfl rfl rfl ((q_add rfl rfl rfl (by intro hc; omega))) ?_
      refine sr rfl rfl rfl ((q_assign rfl rfl)) (sw_nil ?_)
      exact post_next (k + 1) (by exact .cons rfl (.cons rfl (.cons rfl .nil))) (fun _ h => h) ⟨by omega, fun j hj => by
        rcases Nat.lt_or_ge j k with h6 | h6
        · exact hbe j h6
        · have : j = k := by omega
          subst this; exact e1⟩ (by omega)
  · skip
    have hk' : k = t.length := by simp at h; omega
    subst hk'
    have e1 : holdsC x.wl x.at_ t = true := by unfold holdsC; exact all_yes hbe
    refine cw_exit (post_then_x (post_then_x (post_blk_eq (post_then (cw_seq (cw_region (sr rfl rfl rfl ((q_assign rfl rfl)) (sw_nil (post_then (cw_ret (post_ret1 rfl (resOk_tmp rfl) ?_)))))))))))
    exact fun w' hw => ⟨by rw [e1], (fun w h => Cl.sel (by exact .nil _) w h) _ hw⟩
end Go.Proofs.YtkmbliojafefdaaGreatDoor

set_option autoImplicit false
set_option maxRecDepth 100000
namespace Go.Proofs.YtkmbliojafefdaaGreatDoor
open Go.Sx
open Enc (enc val)
theorem mt_at {bl : List Let} (hr : riseB (fun x y : Let => sgn (x.c - y.c)) bl = true) {c : Int} {k : Nat} (hk : k < bl.length) (hc : (nth bl k).c = c) : mtB bl c = true ∧ mtL bl c = nth bl k := by
  have h1 : mtK bl c = k := by
    unfold mtK
    refine lowB_at (by omega) (fun i hi => ?_) fun _ => ?_
    · have := let_asc hr i k hi hk
      simp only [sgn_neg]; omega
    · simp only [sgn_neg]; omega
  have h2 : mtB bl c = true := by
    unfold mtB; rw [h1, decide_eq_true_eq]
    exact ⟨hk, by rw [sgn_zero]; omega⟩
  exact ⟨h2, by unfold mtL; rw [h2, h1]; rfl⟩
theorem mt_no {bl : List Let} {c : Int} (h : ∀ j, j < bl.length → (nth bl j).c ≠ c) : mtB bl c = false := by
  cases hx : mtB bl c with
  | false => rfl
  | true =>
    exfalso
    unfold mtB at hx
    simp only [decide_eq_true_eq, sgn_zero] at hx
    exact h _ hx.1 (by omega)
theorem rule_no {bl : List Let} {ws : List Rn} {i : Nat} (h : ∀ j, j < bl.length → (nth bl j).c ≠ (nth ws i).v) : ruleN bl ws i = -1 ∧ ruleX bl ws i = default := by
  have := mt_no h
  unfold ruleN ruleX
  rw [this]; exact ⟨rfl, rfl⟩
theorem rule_at {bl : List Let} (hr : riseB (fun x y : Let => sgn (x.c - y.c)) bl = true) {ws : List Rn} {i k j : Nat} (hk : k < bl.length) (hc : (nth bl k).c = (nth ws i).v) (hj : j < (nth bl k).rl.length) (h0 : ∀ m, m < j → holdsC ws i (nth (nth bl k).rl m).tl = false) (h1 : holdsC ws i (nth (nth bl k).rl j).tl = true) : ruleN bl ws i = j ∧ ruleX bl ws i = nth (nth bl k).rl j := by
  obtain ⟨h2, h3⟩ := mt_at hr hk hc
  have h4 : mtI bl ws i = j := by
    unfold mtI
    rw [h2, h3]
    exact idxP_at (p := fun r : Chc => holdsC ws i r.tl) hj h0 h1
  unfold ruleN ruleX
  rw [h2, h4, h3]
  exact ⟨rfl, rfl⟩
theorem refRule_spec (b : Bk) (sw : SlV) (ws : List Rn) (i : Nat) (hi : i < ws.length) (hl : ws.length ≤ 1000000) (hg : BGood b.bl) (w : World) (hb : Stb w [] (BkIn b)) (hs : Stb w [] (RdL sw.v ws)) : Calls Tryz.prog 81 #[val b, sw.v, .int .i64 i] w fun e w' => e = .returned (.tuple #[.int .i64 (ruleN b.bl ws i), (ruleX b.bl ws i).p.v]) ∧ Cl w [] [] w' := by
  have hB := rd_stb hb.here.1
  have hL := rd_len hB.here
  have hLw := rd_len hs.here
  refine calls_cw (vs := [_, _, _]) Tryz.func81 rfl Tryz.ntmps81 rfl (Cl.start0 w) (cw_seq (cw_region ?_))
  refine sw_x rfl rfl rfl (e_box rfl rfl rfl) (fun b3 => ?_)
  refine sr rfl rfl rfl ((q_assign rfl rfl)) (sr rfl rfl rfl ((q_assign rfl rfl)) (sw_nil (post_then (cw_seq (cw_seq (cw_region (sr rfl rfl rfl ((q_assign rfl rfl)) (sw_nil (post_then (cw_block ?_))))))))))
  refine cw_loop (S := Nat) (fun k => [(1, [], sw.v), (2, [], .int .i64 i), (3, [], .pointer (some ⟨b3, 0, none⟩)), (8, [], .int .i64 k)]) (fun _ => Cl w [] [blk b3 [b.b.v] 45]) (fun k => k ≤ b.bl.length ∧ ∀ j, j < k → (nth b.bl j).c ≠ (nth ws i).v) (fun k => b.bl.length - k) 0 ⟨by omega, fun j hj => by omega⟩ (by exact .cons rfl (.cons rfl (.cons rfl (.cons rfl .nil)))) (fun w h => Cl.sel (by exact .take 0 rfl (.nil _)) w h) ?_
  rintro k ⟨hk, hbe⟩
  refine cw_seq (cw_seq (cw_region (sr rfl rfl rfl ((q_move rfl rfl)) (sr rfl rfl rfl ((q_fieldAddr rfl rfl)) ?_))))
  refine sr rfl rfl rfl ((q_loadC rfl rfl (by exact .head _) rfl)) ?_
  refine sr rfl rfl rfl ((q_len rfl (.cons rfl inferInstance (.nil)) (by exact fun w hw => Stb.cl (by assumption) hw))) ?_
  refine sr rfl rfl rfl ((q_lss rfl rfl rfl)) (sw_nil (post_then ?_))
  refine cw_cond rfl (fun h => ?_) (fun h => ?_)
  · skip
    have hk' : k < b.bl.length := by simp at h; omega
    refine cw_skip (post_then (cw_seq (cw_block (cw_seq (cw_seq ?_)))))
    refine cw_region_q mixed_Tryz (by kernel_rfl) ?_
    refine qr rfl rfl rfl ((q_fieldAddr rfl rfl)) ?_
    refine qr rfl rfl rfl ((q_loadC rfl rfl (by exact .head _) rfl)) ?_
    refine qr rfl rfl rfl ((q_move rfl rfl)) ?_
    refine qr rfl rfl rfl ((q_indexN rfl rfl rfl (by exact fun w hw => Stb.cl (by assumption) hw) (by intro hc; omega))) ?_
    refine qr rfl rfl rfl ((q_fieldEl rfl rfl (by exact fun w hw => Stb.cl (by assumption) hw) (by intro hc; omega))) ?_
    refine qr rfl rfl rfl ((q_loadF rfl rfl rfl (by exact fun w hw => Stb.cl (by assumption) hw) (by intro hc; omega) rfl)) ?_
    refine qr rfl rfl rfl ((q_move rfl rfl)) (qr rfl rfl rfl ((q_move rfl rfl)) ?_)
    refine qr rfl rfl rfl ((q_indexN rfl rfl rfl (by exact fun w hw => Stb.cl (by assumption) hw) (by intro hc; omega))) ?_
    refine qr rfl rfl rfl ((q_loadF rfl rfl rfl (by exact fun w hw => Stb.cl (by assumption) hw) (by intro hc; omega) rfl)) ?_
    refine qr rfl rfl rfl ((q_neq rfl rfl rfl)) (qw_end (post_then ?_))
    refine cw_cond rfl (fun h2 => ?_) (fun h2 => ?_)
    · skip
      have h3 : (nth b.bl k).c ≠ (nth ws i).v := by simpa using h2
      refine cw_exit (post_then_x (post_blk_eq (post_then (cw_region (sr rfl rfl rfl ((q_move rfl rfl)) ?_)))))
      refine sr rfl rfl rfl ((q_add rfl rfl rfl (by intro hc; omega))) ?_
      refine sr rfl rfl rfl ((q_assign rfl rfl)) (sw_nil ?_)
      exact post_next (k + 1) (by exact .cons rfl (.cons rfl (.cons rfl (.cons rfl .nil)))) (fun w h => Cl.sel (by exact .take 0 rfl (.nil _)) w h) ⟨by omega, fun j hj => by
        rcases Nat.lt_or_ge j k with h6 | h6
        · exact hbe j h6
        · have : j = k := by omega
          subst this; exact h3⟩ (by omega)
    · skip
      have hc : (nth b.bl k).c = (nth ws i).v := by simpa using h2
      have hLi := hb.here.2 _ (nth_mem hk')
      have hR := rd_stb hLi.1
      have hRl := rd_len hR.here
      refine cw_skip (post_then (cw_seq (cw_region (sr rfl rfl rfl ((q_assign rfl rfl)) (sw_nil (post_then (cw_block ?_)))))))
      refine cw_loop (S := Nat) (fun j => [(1, [], sw.v), (2, [], .int .i64 i), (3, [], .pointer (some ⟨b3, 0, none⟩)), (8, [], .int .i64 k), (9, [], .int .i64 j)]) (fun _ => Cl w [] [blk b3 [b.b.v] 45]) (fun j => j ≤ (nth b.bl k).rl.length ∧ ∀ m, m < j → holdsC ws i (nth (nth b.bl k).rl m).tl = false) (fun j => (nth b.bl k).rl.length - j) 0 ⟨by omega, fun j hj => by omega⟩ (by exact .cons rfl (.cons rfl (.cons rfl (.cons rfl (.cons rfl .nil))))) (fun w h => Cl.sel (by exact .take 0 rfl (.nil _)) w h) ?_
      rintro j ⟨hj, hbj⟩
      refine cw_seq (cw_seq (cw_region (sr rfl rfl rfl ((q_move rfl rfl)) (sr rfl rfl rfl ((q_fieldAddr rfl rfl)) ?_))))
      refine sr rfl rfl rfl ((q_loadC rfl rfl (by exact .head _) rfl)) ?_
      refine sr rfl rfl rfl ((q_move rfl rfl)) ?_
      refine sr rfl rfl rfl ((q_indexN rfl rfl rfl (by exact fun w hw => Stb.cl (by assumption) hw) (by intro hc; omega))) ?_
      refine sr rfl rfl rfl ((q_fieldEl rfl rfl (by exact fun w hw => Stb.cl (by assumption) hw) (by intro hc; omega))) ?_
      refine sr rfl rfl rfl ((q_loadF rfl rfl rfl (by exact fun w hw => Stb.cl (by assumption) hw) (by intro hc; omega) rfl)) ?_
      refine sr rfl rfl rfl ((q_len rfl (.cons rfl inferInstance (.nil)) (by exact fun w hw => Stb.cl (by assumption) hw))) ?_
      refine sr rfl rfl rfl ((q_lss rfl rfl rfl)) (sw_nil (post_then ?_))
      refine cw_cond rfl (fun h4 => ?_) (fun h4 => ?_)
      · skip
        have hj' : j < (nth b.bl k).rl.length := by simp at h4; omega
        have hC := hLi.2 _ (nth_mem hj')
        have hC1 := rd_stb hC.1
        have hir := hg.inr _ (nth_mem hk') _ (nth_mem hj')
        have hx : 0 ≤ (i : Int) ∧ (i : Int) ≤ 1000000 := by omega
        have hra := fun h0 h1 => rule_at hg.rise (ws := ws) (i := i) hk' hc hj' h0 h1
        obtain ⟨r, hr⟩ : ∃ r, nth (nth b.bl k).rl j = r := ⟨_, rfl⟩
        rw [hr] at hC1 hir hra
        refine cw_skip (post_then (cw_seq (cw_block (cw_seq (cw_region (sr rfl rfl rfl ((q_fieldAddr rfl rfl)) ?_))))))
        refine sr rfl rfl rfl ((q_loadC rfl rfl (by exact .head _) rfl)) ?_
        refine sr rfl rfl rfl ((q_move rfl rfl)) ?_
        refine sr rfl rfl rfl ((q_indexN rfl rfl rfl (by exact fun w hw => Stb.cl (by assumption) hw) (by intro hc; omega))) ?_
        refine sr rfl rfl rfl ((q_fieldEl rfl rfl (by exact fun w hw => Stb.cl (by assumption) hw) (by intro hc; omega))) ?_
        refine sr rfl rfl rfl ((q_loadF rfl rfl rfl (by exact fun w hw => Stb.cl (by assumption) hw) (by intro hc; omega) rfl)) ?_
        refine sr rfl rfl rfl ((q_move rfl rfl)) ?_
        refine sr rfl rfl rfl ((q_indexN rfl rfl rfl (by exact fun w hw => Stb.cl (by assumption) hw) (by intro hc; omega))) ?_
        refine sr rfl rfl rfl ((q_loadEl rfl rfl rfl (by exact fun w hw => Stb.cl (by assumption) hw) (by intro hc; omega))) ?_
        rw [hr]
        refine sw_x rfl rfl rfl (e_alloc rfl) (fun b10 => ?_)
        refine sw_eff0 rfl rfl (e_store (i := 0) rfl rfl rfl rfl rfl rfl rfl rfl) (sw_nil (post_then (cw_seq (cw_region (sr rfl rfl rfl ((q_fieldAddr rfl rfl)) ?_)))))
        refine sr rfl rfl rfl ((q_loadC rfl rfl (by exact .head _) rfl)) ?_
        refine sr rfl rfl rfl ((q_move rfl rfl)) (sr rfl rfl rfl ((q_move rfl rfl)) (sr rfl rfl rfl ((q_build rfl (.cons rfl inferInstance (.cons rfl inferInstance (.nil))) rfl)) ?_))
        refine sw_step rfl rfl rfl (q_call (CanCall.mk Tryz.call35) rfl (.cons rfl inferInstance (.cons rfl inferInstance (.nil))) (fun _ w1 hw => callq hw (holdsR_spec _ r.tl ⟨sw, (i : Int), ⟨none, 0, 0⟩, ws, []⟩ hx (fun c hc => by have := hir c hc; unfold CondB; omega) w1 (stb_arg hw hC1) (stb_arg hw hs)))) ?_
        refine sw_nil (post_then ?_)
        refine cw_cond rfl (fun h5 => ?_) (fun h5 => ?_)
        · skip
          obtain ⟨e1, e2⟩ := hra hbj h5
          refine cw_seq ?_
          refine cw_region_q mixed_Tryz (by kernel_rfl) ?_
          refine qr rfl rfl rfl ((q_move rfl rfl)) (qr rfl rfl rfl ((q_fieldAddr rfl rfl)) ?_)
          refine qr rfl rfl rfl ((q_loadC rfl rfl (by exact .head _) rfl)) ?_
          refine qr rfl rfl rfl ((q_assign rfl rfl)) (qr rfl rfl rfl ((q_assign rfl rfl)) (qw_end (post_then (cw_ret (post_blk_r (post_then_r (post_then_r (post_blk_r (post_blk_r (post_then_r (post_then_r (post_blk_r (post_then_r (post_ret2 rfl (resOk_tmp rfl) (resOk_tmp rfl) ?_))))))))))))))
          exact fun w' hw => ⟨by rw [e1, e2], (fun w h => Cl.sel (by exact .nil _) w h) _ hw⟩
        · skip
          have e1 : holdsC ws i r.tl = false := by simpa using h5
          refine cw_skip (post_blk (post_then (cw_region (sr rfl rfl rfl ((q_move rfl rfl)) ?_))))
          refine sr rfl rfl rfl ((q_add rfl rfl rfl (by intro hc; omega))) ?_
          refine sr rfl rfl rfl ((q_assign rfl rfl)) (sw_nil ?_)
          exact post_next (j + 1) (by exact .cons rfl (.cons rfl (.cons rfl (.cons rfl (.cons rfl .nil))))) (fun w h => Cl.sel (by exact .take 1 rfl (.nil _)) w h) ⟨by omega, fun m hm => by
            rcases Nat.lt_or_ge m j with h6 | h6
            · exact hbj m h6
            · have : m = j := by omega
              subst this; rw [hr]; exact e1⟩ (by omega)
      · skip
        exfalso
        have hj' : j = (nth b.bl k).rl.length := by simp at h4; omega
        obtain ⟨r, h5, h6⟩ := hg.last _ (nth_mem hk')
        obtain ⟨m, hm, rfl⟩ := List.getElem_of_mem h5
        have := hbj m (by omega)
        rw [nth_get hm, h6] at this
        simp [holdsC] at this
  · skip
    have hk' : k = b.bl.length := by simp at h; omega
    subst hk'
    obtain ⟨e1, e2⟩ := rule_no hbe
    refine cw_exit (post_then_x (post_then_x (post_blk_eq (post_then (cw_seq (cw_region (sr rfl rfl rfl ((q_assign rfl rfl)) (sr rfl rfl rfl ((q_assign rfl rfl)) (sw_nil (post_then (cw_ret (post_ret2 rfl (resOk_tmp rfl) (resOk_tmp rfl) ?_))))))))))))
    exact fun w' hw => ⟨by rw [e1, e2]; rfl, (fun w h => Cl.sel (by exact .nil _) w h) _ hw⟩
theorem refSay_spec (b : Bk) (sw : SlV) (ws : List Rn) (hl : ws.length ≤ 1000) (hg : BGood b.bl) (w : World) (hb : Stb w [] (BkIn b)) (hs : Stb w [] (RdL sw.v ws)) : Calls Tryz.prog 43 #[val b, sw.v] w fun e w' => ∃ r : SlV, e = .returned r.v ∧ True ∧ Cl w [] [ownL 136 r.v (sayC b.bl ws)] w' := by
  have hLw := rd_len hs.here
  have hfb : ∀ i, (soundF b.bl ws i).length ≤ 1000 := fun i => by simp [soundF]; exact rule_small hg
  refine calls_cw (vs := [_, _]) Tryz.func43 rfl Tryz.ntmps43 rfl (Cl.start0 w) (cw_seq (cw_region ?_))
  refine sw_x rfl rfl rfl (e_box rfl rfl rfl) (fun b2 => ?_)
  refine sr rfl rfl rfl ((q_assign rfl rfl)) (sw_nil (post_then (cw_seq (cw_region (sr rfl rfl rfl ((q_assign rfl rfl)) (sw_nil (post_then (cw_seq (cw_seq (cw_region (sr rfl rfl rfl ((q_assign rfl rfl)) (sw_nil (post_then (cw_block ?_))))))))))))))
  refine cw_loop (S := Nat × SlV × List Snd) (fun z => [(1, [], sw.v), (2, [], .pointer (some ⟨b2, 0, none⟩)), (5, [], z.2.1.v), (6, [], .int .i64 z.1)]) (fun z => Cl w [] [ownL 136 z.2.1.v z.2.2, blk b2 [b.b.v] 45]) (fun z => z.1 ≤ ws.length ∧ z.2.2 = (List.range z.1).flatMap (soundF b.bl ws)) (fun z => ws.length - z.1) (0, ⟨none, 0, 0⟩, []) ⟨Nat.zero_le _, rfl⟩ (by exact .cons rfl (.cons rfl (.cons rfl (.cons rfl .nil)))) (fun w' h => Cl.addNil 136 h) ?_
  rintro ⟨k, so, out⟩ ⟨hk, hout⟩
  dsimp only at hk hout ⊢
  refine cw_seq (cw_seq (cw_region (sr rfl rfl rfl ((q_move rfl rfl)) (sr rfl rfl rfl ((q_move rfl rfl)) ?_))))
  refine sr rfl rfl rfl ((q_len rfl (.cons rfl inferInstance (.nil)) (by exact fun w hw => Stb.cl (by assumption) hw))) ?_
  refine sr rfl rfl rfl ((q_lss rfl rfl rfl)) (sw_nil (post_then ?_))
  refine cw_cond rfl (fun h => ?_) (fun h => ?_)
  · skip
    have hk' : k < ws.length := by simp at h; omega
    have hX : Stb w [] (RdL (ruleX b.bl ws k).p.v (ruleX b.bl ws k).pl) := ⟨fun w' h => rule_in hg (hb.stb w' h)⟩
    have hXl : (ruleX b.bl ws k).pl.length ≤ 1000 := rule_small hg
    have hXL := rd_len hX.here
    have hfl : (soundF b.bl ws k).length = (ruleX b.bl ws k).pl.length := by simp [soundF]
    have hob := flat_bd (soundF b.bl ws) hfb k
    have hob2 : k * 1000 ≤ 1000000 := by omega
    refine cw_skip (post_then (cw_seq (cw_block (cw_seq (cw_region ?_)))))
    refine sr rfl rfl rfl ((q_loadA rfl rfl (by exact .tail _ (.head _)) rfl)) ?_
    refine sr rfl rfl rfl ((q_move rfl rfl)) (sr rfl rfl rfl ((q_move rfl rfl)) ?_)
    refine sw_step rfl rfl rfl (q_call (CanCall.mk Tryz.call81) rfl (.cons rfl inferInstance (.cons rfl inferInstance (.cons rfl inferInstance (.nil)))) (fun _ w hw => callq hw (refRule_spec b sw ws k hk' (by omega) hg w (stb_arg hw hb) (stb_arg hw hs)))) ?_
    refine sr rfl rfl rfl ((q_move rfl rfl)) (sr rfl rfl rfl ((q_extract rfl rfl rfl)) (sr rfl rfl rfl ((q_extract rfl rfl rfl)) (sr rfl rfl rfl ((q_assign rfl rfl)) (sr rfl rfl rfl ((q_assign rfl rfl)) (sw_nil (post_then (cw_seq (cw_region (sr rfl rfl rfl ((q_assign rfl rfl)) (sw_nil (post_then (cw_block ?_))))))))))))
    refine cw_loop (S := Nat × SlV × List Snd) (fun z => [(1, [], sw.v), (2, [], .pointer (some ⟨b2, 0, none⟩)), (5, [], z.2.1.v), (6, [], .int .i64 k), (7, [], .int .i64 (ruleN b.bl ws k)), (8, [], (ruleX b.bl ws k).p.v), (9, [], .int .i64 z.1)]) (fun z => Cl w [] [ownL 136 z.2.1.v z.2.2, blk b2 [b.b.v] 45]) (fun z => z.1 ≤ (ruleX b.bl ws k).pl.length ∧ z.2.2 = (List.range k).flatMap (soundF b.bl ws) ++ (soundF b.bl ws k).take z.1) (fun z => (ruleX b.bl ws k).pl.length - z.1) (0, so, out) ⟨Nat.zero_le _, by rw [hout]; simp⟩ (by exact .cons rfl (.cons rfl (.cons rfl (.cons rfl (.cons rfl (.cons rfl (.cons rfl .nil))))))) (fun w' h => h) ?_
    rintro ⟨j, so, out⟩ ⟨hj, hout⟩
    dsimp only at hj hout ⊢
    refine cw_seq (cw_seq (cw_region (sr rfl rfl rfl ((q_move rfl rfl)) (sr rfl rfl rfl ((q_move rfl rfl)) ?_))))
    refine sr rfl rfl rfl ((q_len rfl (.cons rfl inferInstance (.nil)) (by exact fun w hw => Stb.cl (by assumption) hw))) ?_
    refine sr rfl rfl rfl ((q_lss rfl rfl rfl)) (sw_nil (post_then ?_))
    refine cw_cond rfl (fun h2 => ?_) (fun h2 => ?_)
    · skip
      have hj' : j < (ruleX b.bl ws k).pl.length := by simp at h2; omega
      have hol : out.length ≤ 1010000 := by rw [hout, List.length_append, List.length_take]; omega
      refine cw_skip (post_then (cw_seq (cw_block (cw_region (sr rfl rfl rfl ((q_move rfl rfl)) (sr rfl rfl rfl ((q_move rfl rfl)) (sr rfl rfl rfl ((q_move rfl rfl)) ?_)))))))
      refine sr rfl rfl rfl ((q_indexN rfl rfl rfl (by exact fun w hw => Stb.cl (by assumption) hw) (by intro hc; omega))) ?_
      refine sr rfl rfl rfl ((q_loadEl rfl rfl rfl (by exact fun w hw => Stb.cl (by assumption) hw) (by intro hc; omega))) ?_
      refine sr rfl rfl rfl ((q_move rfl rfl)) (sr rfl rfl rfl ((q_move rfl rfl)) (sr rfl rfl rfl ((q_build rfl (.cons rfl inferInstance (.cons rfl inferInstance (.cons rfl inferInstance (.cons rfl inferInstance (.nil))))) rfl)) ?_))
      refine sw_x rfl rfl rfl (e_build1 (α := Snd) (x := (⟨nth (ruleX b.bl ws k).pl j, k, 3, ruleN b.bl ws k⟩ : Snd)) rfl rfl rfl rfl) (fun s37 => ?_)
      refine sw_x rfl rfl rfl (e_append (i := 1) rfl (.cons rfl inferInstance (.cons rfl inferInstance (.nil))) rfl rfl (by exact fun w hw => rd_own hw (by exact .head _)) (by first | omega | (simp only [List.length_set, List.length_append, List.length_cons, List.length_nil, List.length_replicate, List.length_take, List.length_drop, List.length_map]; omega)) rfl) (fun s38 => ?_)
      refine sr rfl rfl rfl ((q_assign rfl rfl)) (sw_nil (post_blk (post_then (cw_region (sr rfl rfl rfl ((q_move rfl rfl)) ?_)))))
      refine sr rfl rfl rfl ((q_add rfl rfl rfl (by intro hc; omega))) ?_
      refine sr rfl rfl rfl ((q_assign rfl rfl)) (sw_nil ?_)
      refine post_next (j + 1, s38, out ++ [(⟨nth (ruleX b.bl ws k).pl j, k, 3, ruleN b.bl ws k⟩ : Snd)]) (by exact .cons rfl (.cons rfl (.cons rfl (.cons rfl (.cons rfl (.cons rfl (.cons rfl .nil))))))) (fun w' h => (fun w h => Cl.sel (by exact .take 1 rfl (.take 1 rfl (.nil _))) w h) _ h) ⟨by simp only; omega, ?_⟩ (by simp only; omega)
      simp only
      rw [hout, List.append_assoc, List.take_succ_eq_append_getElem (by omega : j < (soundF b.bl ws k).length)]
      congr 2
      simp [soundF, nth_get hj']
    · skip
      have hj' : j = (ruleX b.bl ws k).pl.length := by simp at h2; omega
      refine cw_exit (post_then_x (post_then_x (post_blk_eq (post_blk (post_then (cw_region (sr rfl rfl rfl ((q_move rfl rfl)) ?_)))))))
      refine sr rfl rfl rfl ((q_add rfl rfl rfl (by intro hc; omega))) ?_
      refine sr rfl rfl rfl ((q_assign rfl rfl)) (sw_nil ?_)
      refine post_next (k + 1, so, out) (by exact .cons rfl (.cons rfl (.cons rfl (.cons rfl .nil)))) (fun w' h => h) ⟨by simp only; omega, ?_⟩ (by simp only; omega)
      simp only
      rw [hout, range_flat, hj', ← hfl, List.take_length]
  · skip
    have hk' : k = ws.length := by simp at h; omega
    refine cw_exit (post_then_x (post_then_x (post_blk_eq (post_then (cw_seq (cw_region (sr rfl rfl rfl ((q_move rfl rfl)) (sr rfl rfl rfl ((q_assign rfl rfl)) (sw_nil (post_then (cw_ret (post_ret1 rfl (resOk_tmp rfl) ?_))))))))))))
    exact fun w' hw => ⟨so, rfl, trivial, by rw [hk'] at hout; rw [sayC, ← hout]; exact (fun w h => Cl.sel (by exact .take 0 rfl (.nil _)) w h) _ hw⟩
end Go.Proofs.YtkmbliojafefdaaGreatDoor

set_option autoImplicit false
set_option maxRecDepth 100000
namespace Go.Proofs.YtkmbliojafefdaaGreatDoor
open Go.Sx
open Enc (enc val)
instance : DecidableEq Snd := fun a b => decidable_of_iff (a.phone = b.phone ∧ a.fr = b.fr ∧ a.why = b.why ∧ a.ix = b.ix) ⟨fun h => by cases a; cases b; simp at h; simp [h], fun h => by rw [h]; exact ⟨rfl, rfl, rfl, rfl⟩⟩
section
variable {n : Fr} {E : Env} {C : World → Prop} {cs : List Bool} {o : Oper}
theorem neq136 (a b : Snd) (w : World) : (binOp .neq 136 (val a) (val b)).run Tryz.prog w = .ok (.bool (!decide (a = b))) w := by
  obtain ⟨a1, a2, a3, a4⟩ := a
  obtain ⟨b1, b2, b3, b4⟩ := b
  show (binOp .neq 136 (.agg #[.string a1, .int .i64 a2, .int .i64 a3, .int .i64 a4]) (.agg #[.string b1, .int .i64 b2, .int .i64 b3, .int .i64 b4])).run Tryz.prog w = _
  have hin : a1.toList = b1.toList ↔ a1 = b1 := ⟨fun h => by rw [ba_toList, ba_toList] at h; cases a1; cases b1; simp only at h; rw [Array.toList_inj.1 h], fun h => by rw [h]⟩
  simp [go_sem, hin]
  by_cases h1 : a1 = b1 <;> by_cases h2 : a2 = b2 <;> by_cases h3 : a3 = b3 <;> by_cases h4 : a4 = b4 <;> simp [h1, h2, h3, h4]
theorem q_neqSnd {t' : TypeId} {x y : Operand} {cx cy : List Bool} {a b : Snd} (ho : o.op = .binOp .neq 136 x y t') (hx : evl E x = some (cx, val a)) (hy : evl E y = some (cy, val b)) [sx : Sub cx cs] [sy : Sub cy cs] : OpR Tryz.prog n E C cs o (.bool (!decide (a = b))) :=
  .of_run fun ac ha hc w _ => by
    have hg : (eqGuard .neq 136 x y (val a) (val b)).run Tryz.prog w = .ok () w := by kernel_rfl
    unfold execOp; simp only [ho]; rw [ha.eval hx sx hc, ha.eval hy sy hc]
    simp [hg, neq136, Result.andThen]
end
theorem sameSounds_spec (sa sb : Value) (a b : List Snd) (w : World) (ha : Stb w [] (RdL sa a)) (hb : Stb w [] (RdL sb b)) : Calls Tryz.prog 42 #[sa, sb] w fun e w' => e = .returned (.bool (decide (a = b))) ∧ Cl w [] [] w' := by
  have hLa := rd_len ha.here
  have hLb := rd_len hb.here
  refine calls_cw (vs := [_, _]) Tryz.func42 rfl Tryz.ntmps42 rfl (Cl.start0 w) (cw_seq (cw_region (sr rfl rfl rfl ((q_assign rfl rfl)) (sw_nil (post_then (cw_seq (cw_seq (cw_region (sr rfl rfl rfl ((q_move rfl rfl)) ?_)))))))))
  refine sr rfl rfl rfl ((q_len rfl (.cons rfl inferInstance (.nil)) (by exact fun w hw => Stb.cl (by assumption) hw))) ?_
  refine sr rfl rfl rfl ((q_move rfl rfl)) ?_
  refine sr rfl rfl rfl ((q_len rfl (.cons rfl inferInstance (.nil)) (by exact fun w hw => Stb.cl (by assumption) hw))) ?_
  refine sr rfl rfl rfl ((q_neq rfl rfl rfl)) (sw_nil (post_then ?_))
  refine cw_cond rfl (fun h => ?_) (fun h => ?_)
  · skip
    have h2 : ¬ a = b := fun e => by subst e; simp at h
    refine cw_seq (cw_region (sr rfl rfl rfl ((q_assign rfl rfl)) (sw_nil (post_then (cw_ret (post_then_r (post_ret1 rfl (resOk_tmp rfl) ?_)))))))
    exact fun w' hw => ⟨by rw [decide_eq_false h2], hw⟩
  · skip
    have hl : a.length = b.length := by simp at h; omega
    refine cw_skip (post_then (cw_seq (cw_seq (cw_region (sr rfl rfl rfl ((q_assign rfl rfl)) (sw_nil (post_then (cw_block ?_))))))))
    refine cw_loop (S := Nat) (fun k => [(0, [], sa), (1, [], sb), (5, [], .int .i64 k)]) (fun _ => Cl w [] []) (fun k => k ≤ a.length ∧ ∀ j, j < k → nth a j = nth b j) (fun k => a.length - k) 0 ⟨Nat.zero_le _, fun j hj => by omega⟩ (by exact .cons rfl (.cons rfl (.cons rfl .nil))) (fun _ h => h) ?_
    rintro k ⟨hk, hbe⟩
    refine cw_seq (cw_seq (cw_region (sr rfl rfl rfl ((q_move rfl rfl)) (sr rfl rfl rfl ((q_move rfl rfl)) ?_))))
    refine sr rfl rfl rfl ((q_len rfl (.cons rfl inferInstance (.nil)) (by exact fun w hw => Stb.cl (by assumption) hw))) ?_
    refine sr rfl rfl rfl ((q_lss rfl rfl rfl)) (sw_nil (post_then ?_))
    refine cw_cond rfl (fun h2 => ?_) (fun h2 => ?_)
    · skip
      have hk' : k < a.length := by simp at h2; omega
      have hkb : k < b.length := by omega
      refine cw_skip (post_then (cw_seq (cw_block (cw_seq (cw_region_a (Cl w [] []) [] mixed_Tryz ?_)))))
      refine aw_pure 0 rfl (by kernel_rfl) (by kernel_rfl) (by kernel_rfl) (by kernel_rfl) (by kernel_rfl) rfl rfl rfl (q_move rfl rfl) ?_
      refine aw_pure 1 rfl (by kernel_rfl) (by kernel_rfl) (by kernel_rfl) (by kernel_rfl) (by kernel_rfl) rfl rfl rfl (q_move rfl rfl) ?_
      refine aw_take 2 (fun w h => Cl.sel (by exact .nil _) w h) rfl (by kernel_rfl) (by kernel_rfl) (by kernel_rfl) (by kernel_rfl) (by kernel_rfl) (by kernel_rfl) rfl rfl rfl (q_indexN rfl rfl rfl (by exact fun w hw => Stb.cl (by assumption) hw) (by intro hc; omega)) ?_
      refine aw_take 3 (fun w h => Cl.sel (by exact .nil _) w h) rfl (by kernel_rfl) (by kernel_rfl) (by kernel_rfl) (by kernel_rfl) (by kernel_rfl) (by kernel_rfl) rfl rfl rfl (q_loadEl rfl rfl rfl (by exact fun w hw => Stb.cl (by assumption) hw) (by intro hc; omega)) ?_
      refine aw_pure 4 rfl (by kernel_rfl) (by kernel_rfl) (by kernel_rfl) (by kernel_rfl) (by kernel_rfl) rfl rfl rfl (q_move rfl rfl) ?_
      refine aw_pure 5 rfl (by kernel_rfl) (by kernel_rfl) (by kernel_rfl) (by kernel_rfl) (by kernel_rfl) rfl rfl rfl (q_move rfl rfl) ?_
      refine aw_take 6 (fun w h => Cl.sel (by exact .nil _) w h) rfl (by kernel_rfl) (by kernel_rfl) (by kernel_rfl) (by kernel_rfl) (by kernel_rfl) (by kernel_rfl) rfl rfl rfl (q_indexN rfl rfl rfl (by exact fun w hw => Stb.cl (by assumption) hw) (by intro hc; omega)) ?_
      refine aw_take 7 (fun w h => Cl.sel (by exact .nil _) w h) rfl (by kernel_rfl) (by kernel_rfl) (by kernel_rfl) (by kernel_rfl) (by kernel_rfl) (by kernel_rfl) rfl rfl rfl (q_loadEl rfl rfl rfl (by exact fun w hw => Stb.cl (by assumption) hw) (by intro hc; omega)) ?_
      refine aw_take 8 (fun w h => Cl.sel (by exact .nil _) w h) rfl (by kernel_rfl) (by kernel_rfl) (by kernel_rfl) (by kernel_rfl) (by kernel_rfl) (by kernel_rfl) rfl rfl rfl (q_neqSnd (a := nth a k) (b := nth b k) rfl rfl rfl) ?_
      refine aw_end (by kernel_rfl) ?_
      refine post_then ?_
      refine cw_cond rfl (fun h3 => ?_) (fun h3 => ?_)
      · skip
        have h4 : ¬ a = b := fun e => by subst e; simp at h3
        refine cw_seq (cw_region (sr rfl rfl rfl ((q_assign rfl rfl)) (sw_nil (post_then (cw_ret (post_blk_r (post_then_r (post_then_r (post_blk_r (post_then_r (post_ret1 rfl (resOk_tmp rfl) ?_)))))))))))
        exact fun w' hw => ⟨by rw [decide_eq_false h4], hw⟩
      · skip
        have h4 : nth a k = nth b k := by simpa using h3
        refine cw_skip (post_blk (post_then (cw_region (sr rfl rfl rfl ((q_move rfl rfl)) ?_))))
        refine sr rfl rfl rfl ((q_add rfl rfl rfl (by intro hc; omega))) ?_
        refine sr rfl rfl rfl ((q_assign rfl rfl)) (sw_nil ?_)
        exact post_next (k + 1) (by exact .cons rfl (.cons rfl (.cons rfl .nil))) (fun _ h => h) ⟨by omega, fun j hj => by
          rcases Nat.lt_or_ge j k with h5 | h5
          · exact hbe j h5
          · have : j = k := by omega
            subst this; exact h4⟩ (by omega)
    · skip
      have hk' : k = a.length := by simp at h2; omega
      have h4 : a = b := List.ext_getElem hl fun i h5 h6 => by
        have := hbe i (by omega)
        rwa [nth_get h5, nth_get h6] at this
      refine cw_exit (post_then_x (post_then_x (post_blk_eq (post_then (cw_seq (cw_region (sr rfl rfl rfl ((q_assign rfl rfl)) (sw_nil (post_then (cw_ret (post_ret1 rfl (resOk_tmp rfl) ?_)))))))))))
      exact fun w' hw => ⟨by rw [decide_eq_true h4], hw⟩
end Go.Proofs.YtkmbliojafefdaaGreatDoor

set_option autoImplicit false
set_option maxRecDepth 100000
namespace Go.Proofs.YtkmbliojafefdaaGreatDoor
open Go.Sx
open Enc (enc val)
theorem says_spec (b : Bk) (s : ByteArray) (hs : s.size ≤ 9223372036854775807) (w : World) (hT : Stb w [] Tab) (hb : Stb w [] (BkIn b)) :
    Calls Tryz.prog 8 #[val b, .string s] w fun e w' => e = .returned (.bool true) ∧ Cl w [] [] w' := by
  refine calls_cw (vs := [_, _]) Tryz.func8 rfl Tryz.ntmps8 rfl (Cl.start0 w) (cw_seq (cw_region ?_))
  refine sw_x rfl rfl rfl (e_box rfl rfl rfl) (fun b2 => ?_)
  refine sr rfl rfl rfl ((q_assign rfl rfl)) (sw_nil (post_then (cw_seq (cw_seq (cw_region ?_)))))
  refine sr rfl rfl rfl ((q_loadA rfl rfl (by exact .head _) rfl)) ?_
  refine sw_step rfl rfl rfl (q_call (CanCall.mk Tryz.call40) rfl (.cons rfl inferInstance (.nil)) (fun _ w hw => callq hw (lawBook_spec b w (stb_arg hw hb)))) (sr rfl rfl rfl ((q_not rfl rfl)) (sr rfl rfl rfl ((q_move rfl rfl)) (sr rfl rfl rfl ((q_move rfl rfl)) (sr rfl rfl rfl ((q_lenS rfl (.cons rfl inferInstance (.nil)) Tryz.underlying9)) (sr rfl rfl rfl ((q_gtr rfl rfl rfl)) (sr rfl rfl rfl ((q_or2 rfl rfl rfl)) (sw_nil (post_then ?_))))))))
  refine cw_cond rfl (fun h => ?_) (fun h => ?_)
  · skip
    refine cw_seq (cw_region ?_)
    refine sw_step rfl rfl rfl (q_call (CanCall.mk Tryz.call19) rfl (.nil) (fun _ w hw => callq hw (known_spec w (stb_arg hw (by assumption))))) ?_
    refine sr rfl rfl rfl ((q_assign rfl rfl)) (sw_nil (post_then (cw_ret (post_then_r (post_ret1 rfl (resOk_tmp rfl) ?_)))))
    exact fun w' hw => ⟨rfl, (fun w h => Cl.sel (by exact .nil _) w h) _ hw⟩
  · skip
    have h1 : lawBk b.bl = true ∧ s.size ≤ 200 := by
      simp at h; exact ⟨h.1, by omega⟩
    obtain ⟨hlb, hs2⟩ := h1
    have hz : ∀ L ∈ b.bl, ∀ r ∈ L.rl, ∀ p ∈ r.pl, p.size ≤ 9223372036854775807 := fun L hL r hr p hp => by have := lawBk_small hlb L hL r hr p hp; omega
    refine cw_skip (post_then (cw_seq (cw_region ?_)))
    refine sr rfl rfl rfl ((q_loadA rfl rfl (by exact .head _) rfl)) ?_
    refine sr rfl rfl rfl ((q_move rfl rfl)) ?_
    refine sw_x rfl rfl rfl (e_call (CanCall.mk Tryz.call37) rfl (.cons rfl inferInstance (.cons rfl inferInstance (.nil))) (fun w1 hw => say_spec b s (by omega) w1 (stb_arg hw hT) (stb_arg hw hb))) (fun s21 => ?_)
    refine sw_imp fun _ => (sr rfl rfl rfl ((q_move rfl rfl)) (sr rfl rfl rfl ((q_extract rfl rfl rfl)) (sr rfl rfl rfl ((q_extract rfl rfl rfl)) (sr rfl rfl rfl ((q_assign rfl rfl)) (sr rfl rfl rfl ((q_assign rfl rfl)) (sw_nil (post_then (cw_seq (cw_region (sr rfl rfl rfl ((q_move rfl rfl)) ?_))))))))))
    refine sw_x rfl rfl rfl (e_call (CanCall.mk Tryz.call21) rfl (.cons rfl inferInstance (.nil)) (fun w1 hw => refLetters_spec s w1 (by omega) (stb_arg hw hT))) (fun s26 => ?_)
    refine sw_imp fun _ => (sr rfl rfl rfl ((q_move rfl rfl)) (sr rfl rfl rfl ((q_extract rfl rfl rfl)) (sr rfl rfl rfl ((q_extract rfl rfl rfl)) (sr rfl rfl rfl ((q_assign rfl rfl)) (sr rfl rfl rfl ((q_assign rfl rfl)) (sw_nil (post_then (cw_seq (cw_seq (cw_region ?_))))))))))
    refine sr rfl rfl rfl ((q_loadA rfl rfl (by exact .tail _ (.tail _ (.head _))) rfl)) ?_
    refine sw_step rfl rfl rfl (q_call (CanCall.mk Tryz.call41) rfl (.cons rfl inferInstance (.nil)) (fun _ w hw => callq hw (refBook_spec b hz w (stb_arg hw hb)))) (sr rfl rfl rfl ((q_not rfl rfl)) (sr rfl rfl rfl ((q_move rfl rfl)) (sr rfl rfl rfl ((q_move rfl rfl)) (sr rfl rfl rfl ((q_not rfl rfl)) (sr rfl rfl rfl ((q_or2 rfl rfl rfl)) (sw_nil (post_then ?_)))))))
    refine cw_cond rfl (fun h2 => ?_) (fun h2 => ?_)
    · skip
      have h3 : (bookOk b.bl && wordOk s) = false := by
        cases h4 : bookOk b.bl <;> cases h5 : wordOk s <;> simp [h4, h5] at h2 ⊢
      have e1 : sayE b.bl s = 2 := by unfold sayE; rw [h3]; rfl
      have e2 : sayR b.bl s = [] := by unfold sayR; rw [h3]; rfl
      rw [e1, e2]
      refine cw_seq (cw_region (sr rfl rfl rfl ((q_move rfl rfl)) (sr rfl rfl rfl ((q_eql rfl rfl rfl)) (sr rfl rfl rfl ((q_move rfl rfl)) (sr rfl rfl rfl ((q_move rfl rfl)) ?_)))))
      refine sr rfl rfl rfl ((q_len rfl (.cons rfl inferInstance (.nil)) (by exact fun w hw => rd_own hw (by exact .tail _ (.head _))))) ?_
      refine sr rfl rfl rfl ((q_eql rfl rfl rfl)) (sr rfl rfl rfl ((q_and2 rfl rfl rfl)) (sr rfl rfl rfl ((q_move rfl rfl)) ?_))
      refine sw_step rfl rfl rfl (q_call (CanCall.mk Tryz.call19) rfl (.nil) (fun _ w hw => callq hw (known_spec w (stb_arg hw (by assumption))))) ?_
      refine sr rfl rfl rfl ((q_and2 rfl rfl rfl)) (sr rfl rfl rfl ((q_assign rfl rfl)) (sw_nil (post_then (cw_ret (post_then_r (post_ret1 rfl (resOk_tmp rfl) ?_))))))
      exact fun w' hw => ⟨rfl, (fun w h => Cl.sel (by exact .nil _) w h) _ hw⟩
    · skip
      have h3 : bookOk b.bl = true ∧ wordOk s = true := by
        cases h4 : bookOk b.bl <;> cases h5 : wordOk s <;> simp [h4, h5] at h2 ⊢
      have e1 : sayE b.bl s = 0 := by unfold sayE; rw [h3.1, h3.2]; rfl
      have e2 : sayR b.bl s = sayC b.bl (runes s) := by unfold sayR; rw [h3.1, h3.2]; rfl
      have e3 := lettersR_ok h3.2
      have hg := good_of h3.1
      have hrl : (runes s).length ≤ 40 := by have := h3.2; simp [wordOk] at this; omega
      rw [e1, e2, e3]
      refine cw_skip (post_then (cw_seq (cw_region (sr rfl rfl rfl ((q_move rfl rfl)) (sr rfl rfl rfl ((q_eql rfl rfl rfl)) (sr rfl rfl rfl ((q_move rfl rfl)) (sr rfl rfl rfl ((q_move rfl rfl)) ?_)))))))
      refine sr rfl rfl rfl ((q_loadA rfl rfl (by exact .tail _ (.tail _ (.head _))) rfl)) ?_
      refine sr rfl rfl rfl ((q_move rfl rfl)) ?_
      refine sw_xc rfl (by first | (simp [AllT]; done) | simp [AllT, *]) rfl rfl (e_callc (CanCall.mk Tryz.call43) rfl (.cons rfl inferInstance (.cons rfl inferInstance (.nil))) (fun w1 hw => refSay_spec b _ (runes s) (by omega) hg w1 (stb_arg hw hb) (by exact stb_own hw (by exact .head _)))) (fun s52 => ?_)
      refine sw_imp fun _ => ?_
      refine sw_step rfl rfl rfl (q_call (CanCall.mk Tryz.call42) rfl (.cons rfl inferInstance (.cons rfl inferInstance (.nil))) (fun _ w1 hw => callq hw (sameSounds_spec _ _ _ _ w1 (by exact stb_own hw (by exact .tail _ (.tail _ (.head _)))) (by exact stb_own hw (by exact .head _))))) ?_
      refine sr rfl rfl rfl ((q_and2 rfl rfl rfl)) (sr rfl rfl rfl ((q_move rfl rfl)) ?_)
      refine sw_step rfl rfl rfl (q_call (CanCall.mk Tryz.call19) rfl (.nil) (fun _ w hw => callq hw (known_spec w (stb_arg hw (by assumption))))) ?_
      refine sr rfl rfl rfl ((q_and2 rfl rfl rfl)) (sr rfl rfl rfl ((q_assign rfl rfl)) (sw_nil (post_then (cw_ret (post_ret1 rfl (resOk_tmp rfl) ?_)))))
      exact fun w' hw => ⟨by simp, (fun w h => Cl.sel (by exact .nil _) w h) _ hw⟩
end Go.Proofs.YtkmbliojafefdaaGreatDoor

set_option autoImplicit false
namespace Go.Proofs.YtkmbliojafefdaaGreatDoor.letterSays
open Go.ChangeShapes Go.WideShapes Go.ChangeAt Go.RowKit Go.Sx
theorem own : ownKnob Tryz.prog.godebug = none := by kernel_rfl
theorem laid : laidOutB Tryz.prog = true := by kernel_rfl
theorem rowed : ∀ t ∈ Tryz.f8.params.toList, Tryz.prog.readableRec t = true ∧ t < Tryz.prog.types.size := by
  rw [Tryz.params8]
  intro t ht
  change t ∈ [45, 9] at ht
  simp only [List.mem_cons, List.not_mem_nil, or_false] at ht
  rcases ht with rfl | rfl <;> exact ⟨by kernel_rfl, of_decide_eq_true (by kernel_rfl)⟩
set_option maxHeartbeats 1000000 in
set_option maxRecDepth 100000 in
theorem lifted (os : Os) (started : os.Started) (H : Type) (enc : TypeId × Value → H) :
    ReturnsInHanded {} Tryz.checked os 8 .any (fun w args => (Rows.letterSaysSpec.pre enc Tryz.prog Tryz.f8 Rows.letterSaysRow.domain false w args ∧ laidMetH Tryz.prog Rows.letterSaysRow.laid w) ∧ sizedMet enc Tryz.prog Tryz.f8 (OpenSpec.ofChange Rows.letterSaysSpec) false w args)
      (Rows.letterSaysSpec.post enc Tryz.prog Tryz.f8 false true false false) := by
  refine returnsInHanded_of_change_and (C := Tryz.checked) (X := fun w _ => laidMetH Tryz.prog Rows.letterSaysRow.laid w) (fun _ _ _ hh h => h.of_heap hh) own started (by kernel_rfl) Tryz.func8
    (ChangeSpec.witness_shaped (enc := enc) (C := Tryz.checked) (os := os) (X := fun w _ => laidMetH Tryz.prog Rows.letterSaysRow.laid w) false (World.laidAll Tryz.prog os Rows.letterSaysRow.laid) #[.agg #[.slice none 0 0], .string ByteArray.empty] 8 (World.laidAll_os _ _ _)
      (World.shaped_of_ZipB (by kernel_rfl) (by kernel_rfl)) (by kernel_rfl) (by kernel_rfl) (by kernel_rfl)
      (by rw [MakeChecks.laidMetH_plain _ _ _ (by kernel_rfl)]; exact laidMet_laidAll _ (by kernel_rfl) (by kernel_rfl))) ?_
  intro W base args ds gs before hval0 hW hcnd _ hL _
  have hval : ∀ (j : Nat) t v, Tryz.f8.params[j]? = some t → args[j]? = some v → Value.okWide Tryz.prog W .any base t v := hval0
  have hW' := hW
  have hlt := hW.lt
  obtain ⟨p, q, hA0, hV, rfl, hfz, hnd⟩ := hW
  have hA : DataW.TrodAll enc Tryz.prog W 0 (fun _ => true) true Tryz.f8.params.toList args.toList ds p := hA0
  have hkeep := fun (W' : World) (hb : Below W.heap.size W W') (sp : Nat → Bool) (hsp : ∀ x ∈ p, sp x.block = true) => trodAll_keep laid hb sp rowed hA (fun x hx => hlt x (by simp [hx])) hsp
  rw [Tryz.params8] at hA hval
  obtain ⟨v0, vs0, d0, ds0, p0, q0, hargs, rfl, rfl, h0, r0⟩ := trodAll_cons hA
  obtain ⟨v1, vs1, d1, ds1, p1, q1, rfl, rfl, rfl, h1, r1⟩ := trodAll_cons r0
  obtain ⟨rfl, rfl, rfl⟩ := trodAll_nil r1
  obtain rfl : args = #[v0, v1] := by cases args; simp_all
  obtain ⟨rfl, rfl⟩ := trodVars_none hV
  obtain ⟨a0, b0, rfl, k0⟩ := open_deep (hval 0 45 v0 rfl rfl) h0
  obtain ⟨a1, b1, rfl, k1⟩ := open_deep (hval 1 9 v1 rfl rfl) h1
  obtain ⟨rfl, w1⟩ := k1.here
  clear hA0 hval0
  rw [MakeChecks.laidMetH_plain _ _ _ (by kernel_rfl)] at hL
  have hT : Stb W [] Tab := tab_stb (utf8Tabs_of_readsT (U8Types.of196 Tryz.lays196) ⟨by kernel_rfl, by kernel_rfl, by kernel_rfl, by kernel_rfl, by kernel_rfl, by kernel_rfl, by kernel_rfl⟩ (Pinned.utf8First_eq ▸ Lib.laidMet.reads hL (.tail _ (.head _))) (Lib.laidMet.reads hL (.head _)))
  obtain rfl := k0.here.1
  refine (says_spec a0 a1 (by have := w1; unfold maxLen at this; omega) W hT (stb_map k0 fun _ h => h.2)).mono fun e W' ⟨he, hc⟩ => ?_
  subst he
  have hb := below_of hc
  exact ⟨_, rfl, _, _, _, [], _, [], hW', trodAll_cons_mk (shut_bool Tryz.underlying4 _) trodAll_mk0, hkeep W' hb _ (fun x hx => by simpa using hlt x (by simpa using hx)), rfl, hb.frame _, fun h => by cases h⟩
end Go.Proofs.YtkmbliojafefdaaGreatDoor.letterSays

set_option autoImplicit false
namespace Go.Proofs.YtkmbliojafefdaaGreatDoor.letterSays
open Go.Sx
theorem named : Tryz.prog.funcNamed "declaim/declaimlaw03.LetterSays" = some 8 := by kernel_rfl
theorem inst : Tryz.f8.isInstance Tryz.prog Rows.letterSaysRow.origin Rows.letterSaysRow.targs := of_decide_eq_true (by kernel_rfl)
theorem wrap : Tryz.f8.isWrapper Tryz.prog Rows.letterSaysRow.wrapper Rows.letterSaysRow.mainSum := by unfold Func.isWrapper; first | (rw [if_pos (by decide +kernel)]; kernel_rfl) | (rw [if_neg (by decide +kernel)]; exact ⟨rfl, rfl⟩)
theorem over : Rows.letterSaysRow.holds Tryz.pinned (OpenSpec.ofChange Rows.letterSaysSpec) :=
  OpenClaim.holds_of_wide 8 Tryz.f8 rfl rfl rfl rfl rfl rfl rfl ⟨rfl, rfl, rfl, rfl, rfl⟩ rfl rfl rfl rfl rfl named Tryz.func8 closed inst wrap
    (fun os started H enc _ => lifted os started H enc)
end Go.Proofs.YtkmbliojafefdaaGreatDoor.letterSays

set_option autoImplicit false
namespace Go.Proofs.YtkmbliojafefdaaGreatDoor.letterSays
theorem wft : Rows.letterSaysRow.wfByText (OpenSpec.ofChange Rows.letterSaysSpec) = true := by kernel_rfl
theorem main_is : Tryz.prog.mainIs = some (true, ("d8be659bf8d5b02a094a7902d1429b48723caac21f6c6de879e48704ff2af7b1" : String).toList) := by kernel_rfl
theorem looks_no : false = Tryz.prog.looks [] := by kernel_rfl
theorem goes_by : false = Rows.letterSaysRow.goesBy Tryz.prog := by kernel_rfl
theorem stand_no : ([45, 9].all fun u => !Tryz.prog.wantsStandIn u) = true := by kernel_rfl
end Go.Proofs.YtkmbliojafefdaaGreatDoor.letterSays
