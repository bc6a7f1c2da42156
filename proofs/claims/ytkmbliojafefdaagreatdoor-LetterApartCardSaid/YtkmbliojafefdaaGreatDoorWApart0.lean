import Derived.Test.YtkmbliojafefdaaGreatDoorWB6
import Derived.Test.YtkmbliojafefdaaGreatDoorRows
import Derived.LaidMore
import Derived.Lay
import Derived.Stop.Joined
import Derived.Test.YtkmbliojafefdaaGreatDoorVApart1

set_option autoImplicit false
set_option linter.unusedSimpArgs false
set_option linter.unusedVariables false
set_option maxRecDepth 100000
namespace Go.Proofs.YtkmbliojafefdaaGreatDoor
open Go.Sx
theorem joinAt_still {j : List Jnt} {ll : List (List ByteArray)} {i : Nat} (h : stepJ j (nth ll i) (nth ll (i + 1)) = (nth ll i, nth ll (i + 1))) : joinAt j ll i = ll := by
  unfold joinAt; rw [h]; dsimp only; rw [set_same, set_same]
theorem joinF_still {j : List Jnt} {ll : List (List ByteArray)} (hs : ∀ i, i + 1 < ll.length → stepJ j (nth ll i) (nth ll (i + 1)) = (nth ll i, nth ll (i + 1))) (hl : ∀ l ∈ ll, l.length ≤ 120) : ∀ n i, i + n + 1 ≤ ll.length ∨ n = 0 → joinF j n i ll = some ll
  | 0, _, _ => rfl
  | n + 1, i, h => by
    have h1 := hl _ (nth_mem (l := ll) (i := i) (by omega))
    have h2 := hl _ (nth_mem (l := ll) (i := i + 1) (by omega))
    rw [joinF, joinAt_still (hs i (by omega)), if_neg (by omega)]
    exact joinF_still hs hl n (i + 1) (by omega)
theorem join_still {j : List Jnt} {ll : List (List ByteArray)} (hj : j.length ≤ 200) (hjo : j.all jointOk = true) (hn : ll.length ≤ 100) (hp : ∀ l ∈ ll, phonesOk l 120 = true) (hs : ∀ i, i + 1 < ll.length → stepJ j (nth ll i) (nth ll (i + 1)) = (nth ll i, nth ll (i + 1))) : joinE j ll = 0 ∧ joinR j ll = ll := by
  have h1 : joinC j ll = some ll := joinF_still hs (fun l hl => by have := hp l hl; simp [phonesOk] at this; omega) _ _ (by omega)
  have h2 : (ll.all fun l => phonesOk l 120) = true := List.all_eq_true.2 hp
  have h3 : joinE j ll = 0 := by
    unfold joinE
    rw [if_neg (by omega), if_pos (by rw [hjo, h2]; rfl), h1]
  exact ⟨h3, by unfold joinR; rw [if_pos h3, h1]; rfl⟩
def sameJ (x : Jnt) : Jnt := ⟨x.l, x.r, x.l, x.r, x.ll, x.rl, x.ll, x.rl⟩
theorem sameJ_ok {x : Jnt} (h : jointOk x = true) : jointOk (sameJ x) = true := by
  simp only [jointOk, Bool.and_eq_true] at h
  simp only [jointOk, sameJ, Bool.and_eq_true]
  exact ⟨⟨⟨⟨h.1.1.1.1, h.1.1.1.2⟩, h.1.1.2⟩, h.1.1.1.2⟩, h.1.1.2⟩
theorem same_step (j : List Jnt) (a b : List ByteArray) : stepJ (j.map sameJ) a b = (a, b) := by
  unfold stepJ
  split
  · rfl
  · rename_i x h
    have h1 := List.mem_of_find?_eq_some h
    have h2 := List.find?_some h
    obtain ⟨y, _, rfl⟩ := List.mem_map.1 h1
    simp only [fitsC, sameJ, Bool.and_eq_true, decide_eq_true_eq] at h2
    simp only [sameJ]
    refine Prod.ext ?_ ?_
    · simp only
      have h3 := of_decide_eq_true h2.1.2
      conv => lhs; rw [← h3]
      rw [List.length_drop]
      rw [show a.length - (a.length - (a.length - y.ll.length)) = a.length - y.ll.length by omega, List.take_append_drop]
    · simp only
      have h3 := of_decide_eq_true h2.2
      have h4 := of_decide_eq_true h2.1.1.2
      conv => lhs; rw [← h3]
      rw [List.length_take, show min y.rl.length b.length = y.rl.length by omega, List.take_append_drop]
def noneB : ByteArray := ⟨#[110, 111, 110, 101]⟩
def neverB : ByteArray := ⟨#[110, 101, 118, 101, 114]⟩
def neverJ (s t : SlV) : Jnt := ⟨s, t, ⟨none, 0, 0⟩, ⟨none, 0, 0⟩, [noneB], [neverB], [], []⟩
theorem neverJ_ok (s t : SlV) : jointOk (neverJ s t) = true := by kernel_rfl
theorem never_step {s t : SlV} {a b : List ByteArray} (h : neverB ∉ b) : stepJ [neverJ s t] a b = (a, b) := by
  unfold stepJ
  split
  · rfl
  · rename_i x hx
    have h1 := List.mem_of_find?_eq_some hx
    have h2 := List.find?_some hx
    simp only [List.mem_singleton] at h1
    subst h1
    simp only [fitsC, neverJ, Bool.and_eq_true, decide_eq_true_eq] at h2
    exact absurd (List.mem_of_mem_take (by rw [of_decide_eq_true h2.2]; exact .head _)) h
theorem nth_set_le {l : List (List ByteArray)} {i : Nat} {x : List ByteArray} (hx : x.length ≤ 120) (h : ∀ k, (nth l k).length ≤ 120) (k : Nat) : (nth (l.set i x) k).length ≤ 120 := by
  by_cases e : k = i
  · subst e
    by_cases hk : k < l.length
    · rw [nth_set_eq _ hk]; exact hx
    · rw [List.set_eq_of_length_le (by omega)]; exact h k
  · rw [nth_set_ne _ _ e]; exact h k
theorem never_len (s t : SlV) (a b : List ByteArray) : (stepJ [neverJ s t] a b).1.length ≤ a.length ∧ (stepJ [neverJ s t] a b).2.length ≤ b.length := by
  unfold stepJ
  split
  · exact ⟨Nat.le_refl _, Nat.le_refl _⟩
  · rename_i x hx
    have h1 := List.mem_of_find?_eq_some hx
    simp only [List.mem_singleton] at h1
    subst h1
    simp only [neverJ, List.append_nil, List.nil_append, List.length_take, List.length_drop]
    omega
theorem never_some (s t : SlV) : ∀ (n i : Nat) (ll : List (List ByteArray)), (∀ k, (nth ll k).length ≤ 120) → ∃ r, joinF [neverJ s t] n i ll = some r
  | 0, _, ll, _ => ⟨ll, rfl⟩
  | n + 1, i, ll, h => by
    have h1 := never_len s t (nth ll i) (nth ll (i + 1))
    have h2 := h i
    have h3 := h (i + 1)
    have h4 : ∀ k, (nth (joinAt [neverJ s t] ll i) k).length ≤ 120 := fun k => nth_set_le (by omega) (nth_set_le (by omega) h) k
    have h5 := h4 i
    have h6 := h4 (i + 1)
    rw [joinF, if_neg (by omega)]
    exact never_some s t n (i + 1) _ h4
theorem never_zero (s t : SlV) {ll : List (List ByteArray)} (hn : ll.length ≤ 100) (hp : ∀ l ∈ ll, phonesOk l 120 = true) : joinE [neverJ s t] ll = 0 := by
  obtain ⟨r, hr⟩ := never_some s t (ll.length - 1) 0 ll fun k => by
    by_cases hk : k < ll.length
    · have := hp _ (nth_mem hk)
      simp [phonesOk] at this; omega
    · have : nth ll k = [] := by simp [nth, List.getElem?_eq_none (by omega : ll.length ≤ k)]; rfl
      rw [this]; simp
  have h2 : (ll.all fun l => phonesOk l 120) = true := List.all_eq_true.2 hp
  have h3 : joinC [neverJ s t] ll = some r := hr
  unfold joinE
  rw [if_neg (by simp; omega), if_pos (by rw [h2]; simp [neverJ_ok]), h3]
end Go.Proofs.YtkmbliojafefdaaGreatDoor

set_option autoImplicit false
set_option maxRecDepth 100000
namespace Go.Proofs.YtkmbliojafefdaaGreatDoor
open Go.Sx
open Enc (enc val)
def lawChc (r : Chc) : Bool := decide (r.tl.length ≤ 5) && lawPh r.pl 5
def lawLet (L : Let) : Bool := decide (L.rl.length ≤ 30) && L.rl.all lawChc
def lawBk (bl : List Let) : Bool := decide (bl.length ≤ 12) && bl.all lawLet
theorem all_no {α : Type} [Inhabited α] {p : α → Bool} {l : List α} {k : Nat} (hk : k < l.length) (h : p (nth l k) = false) : l.all p = false := by
  rw [List.all_eq_false]; exact ⟨_, nth_mem hk, by simp [h]⟩
theorem all_yes {α : Type} [Inhabited α] {p : α → Bool} {l : List α} (h : ∀ k, k < l.length → p (nth l k) = true) : l.all p = true := by
  rw [List.all_eq_true]
  intro x hx
  obtain ⟨k, hk, rfl⟩ := List.getElem_of_mem hx
  have := h k hk
  rwa [nth_get hk] at this
theorem lawBook_spec (b : Bk) (w : World) (hb : Stb w [] (BkIn b)) : Calls Tryz.prog 40 #[val b] w fun e w' => e = .returned (.bool (lawBk b.bl)) ∧ Cl w [] [] w' := by
  have hB := rd_stb hb.here.1
  have hL := rd_len hB.here
  refine calls_cw (vs := [_]) Tryz.func40 rfl Tryz.ntmps40 rfl (Cl.start0 w) (cw_seq (cw_region ?_))
  refine sw_x rfl rfl rfl (e_box rfl rfl rfl) (fun b1 => ?_)
  refine sr rfl rfl rfl ((q_assign rfl rfl)) (sw_nil (post_then (cw_seq (cw_seq (cw_region (sr rfl rfl rfl ((q_fieldAddr rfl rfl)) ?_))))))
  refine sr rfl rfl rfl ((q_loadC rfl rfl (by exact .head _) rfl)) ?_
  refine sr rfl rfl rfl ((q_len rfl (.cons rfl inferInstance (.nil)) (by exact fun w hw => Stb.cl (by assumption) hw))) ?_
  refine sr rfl rfl rfl ((q_gtr rfl rfl rfl)) (sw_nil (post_then ?_))
  refine cw_cond rfl (fun h => ?_) (fun h => ?_)
  · skip
    have e1 : lawBk b.bl = false := by unfold lawBk; rw [decide_eq_false (by simp at h; omega)]; rfl
    refine cw_seq (cw_region (sr rfl rfl rfl ((q_assign rfl rfl)) (sw_nil (post_then (cw_ret (post_then_r (post_ret1 rfl (resOk_tmp rfl) ?_)))))))
    exact fun w' hw => ⟨by rw [e1], (fun w h => Cl.sel (by exact .nil _) w h) _ hw⟩
  · skip
    refine cw_skip (post_then (cw_seq (cw_seq (cw_region (sr rfl rfl rfl ((q_assign rfl rfl)) (sw_nil (post_then (cw_block ?_))))))))
    refine cw_loop (S := Nat) (fun i => [(1, [], .pointer (some ⟨b1, 0, none⟩)), (3, [], .int .i64 i)]) (fun _ => Cl w [] [blk b1 [b.b.v] 45]) (fun i => i ≤ b.bl.length ∧ ∀ j, j < i → lawLet (nth b.bl j) = true) (fun i => b.bl.length - i) 0 ⟨by omega, fun j hj => by omega⟩ (by exact .cons rfl (.cons rfl .nil)) (fun w h => Cl.sel (by exact .take 0 rfl (.nil _)) w h) ?_
    rintro i ⟨hi, hbe⟩
    refine cw_seq (cw_seq (cw_region (sr rfl rfl rfl ((q_move rfl rfl)) (sr rfl rfl rfl ((q_fieldAddr rfl rfl)) ?_))))
    refine sr rfl rfl rfl ((q_loadC rfl rfl (by exact .head _) rfl)) ?_
    refine sr rfl rfl rfl ((q_len rfl (.cons rfl inferInstance (.nil)) (by exact fun w hw => Stb.cl (by assumption) hw))) ?_
    refine sr rfl rfl rfl ((q_lss rfl rfl rfl)) (sw_nil (post_then ?_))
    refine cw_cond rfl (fun h2 => ?_) (fun h2 => ?_)
    · skip
      have hi' : i < b.bl.length := by simp at h2; omega
      have hLi := hb.here.2 _ (nth_mem hi')
      have hR := rd_stb hLi.1
      have hRl := rd_len hR.here
      refine cw_skip (post_then (cw_seq (cw_block (cw_seq (cw_seq (cw_region (sr rfl rfl rfl ((q_fieldAddr rfl rfl)) ?_)))))))
      refine sr rfl rfl rfl ((q_loadC rfl rfl (by exact .head _) rfl)) ?_
      refine sr rfl rfl rfl ((q_move rfl rfl)) ?_
      refine sr rfl rfl rfl ((q_indexN rfl rfl rfl (by exact fun w hw => Stb.cl (by assumption) hw) (by intro hc; omega))) ?_
      refine sr rfl rfl rfl ((q_fieldEl rfl rfl (by exact fun w hw => Stb.cl (by assumption) hw) (by intro hc; omega))) ?_
      refine sr rfl rfl rfl ((q_loadF rfl rfl rfl (by exact fun w hw => Stb.cl (by assumption) hw) (by intro hc; omega) rfl)) ?_
      refine sr rfl rfl rfl ((q_len rfl (.cons rfl inferInstance (.nil)) (by exact fun w hw => Stb.cl (by assumption) hw))) ?_
      refine sr rfl rfl rfl ((q_gtr rfl rfl rfl)) (sw_nil (post_then ?_))
      refine cw_cond rfl (fun h3 => ?_) (fun h3 => ?_)
      · skip
        have e1 : lawBk b.bl = false := by
          unfold lawBk
          rw [all_no hi' (by unfold lawLet; rw [decide_eq_false (by simp at h3; omega)]; rfl)]; simp
        refine cw_seq (cw_region (sr rfl rfl rfl ((q_assign rfl rfl)) (sw_nil (post_then (cw_ret (post_then_r (post_blk_r (post_then_r (post_then_r (post_blk_r (post_then_r (post_ret1 rfl (resOk_tmp rfl) ?_))))))))))))
        exact fun w' hw => ⟨by rw [e1], (fun w h => Cl.sel (by exact .nil _) w h) _ hw⟩
      · skip
        have h30 : (nth b.bl i).rl.length ≤ 30 := by simp at h3; omega
        refine cw_skip (post_then (cw_seq (cw_region (sr rfl rfl rfl ((q_assign rfl rfl)) (sw_nil (post_then (cw_block ?_)))))))
        refine cw_loop (S := Nat) (fun j => [(1, [], .pointer (some ⟨b1, 0, none⟩)), (3, [], .int .i64 i), (4, [], .int .i64 j)]) (fun _ => Cl w [] [blk b1 [b.b.v] 45]) (fun j => j ≤ (nth b.bl i).rl.length ∧ ∀ k, k < j → lawChc (nth (nth b.bl i).rl k) = true) (fun j => (nth b.bl i).rl.length - j) 0 ⟨by omega, fun j hj => by omega⟩ (by exact .cons rfl (.cons rfl (.cons rfl .nil))) (fun w h => Cl.sel (by exact .take 0 rfl (.nil _)) w h) ?_
        rintro j ⟨hj, hbj⟩
        refine cw_seq (cw_seq (cw_region (sr rfl rfl rfl ((q_move rfl rfl)) (sr rfl rfl rfl ((q_fieldAddr rfl rfl)) ?_))))
        refine sr rfl rfl rfl ((q_loadC rfl rfl (by exact .head _) rfl)) ?_
        refine sr rfl rfl rfl ((q_move rfl rfl)) ?_
        refine sr rfl rfl rfl ((q_indexN rfl rfl rfl (by exact fun w hw => Stb.cl (by assumption) hw) (by intro hc; omega))) ?_
        refine sr rfl rfl rfl ((q_fieldEl rfl rfl (by exact fun w hw => Stb.cl (by assumption) hw) (by intro hc; omega))) ?_
        refine sr rfl rfl rfl ((q_loadF rfl rfl rfl (by exact fun w hw => Stb.cl (by assumption) hw) (by intro hc; omega) rfl)) ?_
        refine sr rfl rfl rfl ((q_len rfl (.cons rfl inferInstance (.nil)) (by exact fun w hw => Stb.cl (by assumption) hw))) ?_
        refine sr rfl rfl rfl ((q_lss rfl rfl rfl)) (sw_nil (post_then ?_))
        refine cw_cond rfl (fun h4 => ?_) (fun h4 => ?_)
        · skip
          have hj' : j < (nth b.bl i).rl.length := by simp at h4; omega
          have hC := hLi.2 _ (nth_mem hj')
          have hC1 := rd_stb hC.1
          have hC2 := rd_stb hC.2
          have hC1l := rd_len hC1.here
          refine cw_skip (post_then (cw_seq (cw_block (cw_seq (cw_region (sr rfl rfl rfl ((q_fieldAddr rfl rfl)) ?_))))))
          refine sr rfl rfl rfl ((q_loadC rfl rfl (by exact .head _) rfl)) ?_
          refine sr rfl rfl rfl ((q_move rfl rfl)) ?_
          refine sr rfl rfl rfl ((q_indexN rfl rfl rfl (by exact fun w hw => Stb.cl (by assumption) hw) (by intro hc; omega))) ?_
          refine sr rfl rfl rfl ((q_fieldEl rfl rfl (by exact fun w hw => Stb.cl (by assumption) hw) (by intro hc; omega))) ?_
          refine sr rfl rfl rfl ((q_loadF rfl rfl rfl (by exact fun w hw => Stb.cl (by assumption) hw) (by intro hc; omega) rfl)) ?_
          refine sr rfl rfl rfl ((q_move rfl rfl)) ?_
          refine sr rfl rfl rfl ((q_indexN rfl rfl rfl (by exact fun w hw => Stb.cl (by assumption) hw) (by intro hc; omega))) ?_
          refine sr rfl rfl rfl ((q_loadEl rfl rfl rfl (by exact fun w hw => Stb.cl (by assumption) hw) (by intro hc; omega))) ?_
          refine sw_x rfl rfl rfl (e_alloc rfl) (fun b5 => ?_)
          refine sw_eff0 rfl rfl (e_store (i := 0) rfl rfl rfl rfl rfl rfl rfl rfl) (sw_nil (post_then (cw_seq (cw_region (sr rfl rfl rfl ((q_fieldAddr rfl rfl)) ?_)))))
          refine sr rfl rfl rfl ((q_loadC rfl rfl (by exact .head _) rfl)) ?_
          refine sr rfl rfl rfl ((q_len rfl (.cons rfl inferInstance (.nil)) (by exact fun w hw => Stb.cl (by assumption) hw))) ?_
          refine sr rfl rfl rfl ((q_gtr rfl rfl rfl)) (sr rfl rfl rfl ((q_move rfl rfl)) (sr rfl rfl rfl ((q_fieldAddr rfl rfl)) ?_))
          refine sr rfl rfl rfl ((q_loadC rfl rfl (by exact .head _) rfl)) ?_
          refine sw_step rfl rfl rfl (q_call (CanCall.mk Tryz.call18) rfl (.cons rfl inferInstance (.cons rfl inferInstance (.nil))) (fun _ w hw => callq hw (lawPhones_spec _ _ _ (by omega) w (by exact stb_arg hw (by assumption))))) ?_
          refine sr rfl rfl rfl ((q_not rfl rfl)) (sr rfl rfl rfl ((q_or2 rfl rfl rfl)) (sw_nil (post_then ?_)))
          refine cw_cond rfl (fun h5 => ?_) (fun h5 => ?_)
          · skip
            have e1 : lawBk b.bl = false := by
              unfold lawBk
              rw [all_no hi' (by
                unfold lawLet
                rw [all_no hj' (by
                  unfold lawChc
                  cases hx : lawPh (nth (nth b.bl i).rl j).pl 5 with
                  | false => simp
                  | true => rw [hx] at h5; simp at h5; simp; omega)]
                simp)]
              simp
            refine cw_seq (cw_region (sr rfl rfl rfl ((q_assign rfl rfl)) (sw_nil (post_then (cw_ret (post_blk_r (post_then_r (post_then_r (post_blk_r (post_blk_r (post_then_r (post_then_r (post_blk_r (post_then_r (post_ret1 rfl (resOk_tmp rfl) ?_)))))))))))))))
            exact fun w' hw => ⟨by rw [e1], (fun w h => Cl.sel (by exact .nil _) w h) _ hw⟩
          · skip
            have e1 : lawChc (nth (nth b.bl i).rl j) = true := by
              unfold lawChc
              cases hx : lawPh (nth (nth b.bl i).rl j).pl 5 with
              | false => rw [hx] at h5; simp at h5
              | true => rw [hx] at h5; simp at h5; simp; omega
            refine cw_skip (post_blk (post_then (cw_region (sr rfl rfl rfl ((q_move rfl rfl)) ?_))))
            refine sr rfl rfl rfl ((q_add rfl rfl rfl (by intro hc; omega))) ?_
            refine sr rfl rfl rfl ((q_assign rfl rfl)) (sw_nil ?_)
            exact post_next (j + 1) (by exact .cons rfl (.cons rfl (.cons rfl .nil))) (fun w h => Cl.sel (by exact .take 1 rfl (.nil _)) w h) ⟨by omega, fun k hk => by
              rcases Nat.lt_or_ge k j with h6 | h6
              · exact hbj k h6
              · have : k = j := by omega
                subst this; exact e1⟩ (by omega)
        · skip
          have hj' : j = (nth b.bl i).rl.length := by simp at h4; omega
          subst hj'
          have e1 : lawLet (nth b.bl i) = true := by unfold lawLet; rw [all_yes hbj, decide_eq_true h30]; rfl
          refine cw_exit (post_then_x (post_then_x (post_blk_eq (post_blk (post_then (cw_region (sr rfl rfl rfl ((q_move rfl rfl)) ?_)))))))
          refine sr rfl rfl rfl ((q_add rfl rfl rfl (by intro hc; omega))) ?_
          refine sr rfl rfl rfl ((q_assign rfl rfl)) (sw_nil ?_)
          exact post_next (i + 1) (by exact .cons rfl (.cons rfl .nil)) (fun w h => Cl.sel (by exact .take 0 rfl (.nil _)) w h) ⟨by omega, fun k hk => by
            rcases Nat.lt_or_ge k i with h6 | h6
            · exact hbe k h6
            · have : k = i := by omega
              subst this; exact e1⟩ (by omega)
    · skip
      have hi' : i = b.bl.length := by simp at h2; omega
      subst hi'
      have e1 : lawBk b.bl = true := by unfold lawBk; rw [all_yes hbe, decide_eq_true (by simp at h; omega)]; rfl
      refine cw_exit (post_then_x (post_then_x (post_blk_eq (post_then (cw_seq (cw_region (sr rfl rfl rfl ((q_assign rfl rfl)) (sw_nil (post_then (cw_ret (post_ret1 rfl (resOk_tmp rfl) ?_)))))))))))
      exact fun w' hw => ⟨by rw [e1], (fun w h => Cl.sel (by exact .nil _) w h) _ hw⟩
theorem lawBk_small {bl : List Let} (h : lawBk bl = true) : ∀ L ∈ bl, ∀ r ∈ L.rl, ∀ p ∈ r.pl, p.size ≤ 12 := by
  intro L hL r hr p hp
  unfold lawBk lawLet lawChc lawPh at h
  simp only [Bool.and_eq_true, List.all_eq_true, decide_eq_true_eq] at h
  exact ((h.2 L hL).2 r hr).2.2 p hp
end Go.Proofs.YtkmbliojafefdaaGreatDoor

set_option autoImplicit false
set_option maxRecDepth 100000
namespace Go.Proofs.YtkmbliojafefdaaGreatDoor
open Go.Sx
open Enc (enc val)
theorem samePiecesRR_spec (sa sb : Value) (a b : List (List ByteArray)) (w : World) (ha : Stb w [] (RdRR sa a)) (hb : Stb w [] (RdRR sb b)) : Calls Tryz.prog 25 #[sa, sb] w fun e w' => e = .returned (.bool (decide (a = b))) ∧ Cl w [] [] w' := by
  obtain ⟨va, h1, h2⟩ := ha.here
  obtain ⟨vb, h3, h4⟩ := hb.here
  exact samePieces_spec sa sb va vb a b w (rd_stb h1) (rd_stb h3) (rdR_stb h2) (rdR_stb h4)
def lawJt (x : Jnt) : Bool := lawPh x.ll 5 && lawPh x.rl 5 && lawPh x.toll 5 && lawPh x.torl 5
def lawJts (j : List Jnt) : Bool := !(decide (10 < j.length) && decide (j.length ≤ 200) || decide (300 < j.length)) && j.all lawJt
theorem lawJoints_spec (sv : Value) (j : List Jnt) (w : World) (hs : Stb w [] (RdL sv j)) (hp : Stb w [] fun w' => ∀ u ∈ j, JntIn u w') : Calls Tryz.prog 44 #[sv] w fun e w' => e = .returned (.bool (lawJts j)) ∧ Cl w [] [] w' := by
  have hL := rd_len hs.here
  refine calls_cw (vs := [_]) Tryz.func44 rfl Tryz.ntmps44 rfl (Cl.start0 w) (cw_seq (cw_region (sr rfl rfl rfl ((q_assign rfl rfl)) (sw_nil (post_then (cw_seq (cw_seq (cw_region (sr rfl rfl rfl ((q_move rfl rfl)) ?_)))))))))
  refine sr rfl rfl rfl ((q_len rfl (.cons rfl inferInstance (.nil)) (by exact fun w hw => Stb.cl (by assumption) hw))) ?_
  refine sr rfl rfl rfl ((q_gtr rfl rfl rfl)) (sr rfl rfl rfl ((q_move rfl rfl)) (sr rfl rfl rfl ((q_move rfl rfl)) ?_))
  refine sr rfl rfl rfl ((q_len rfl (.cons rfl inferInstance (.nil)) (by exact fun w hw => Stb.cl (by assumption) hw))) ?_
  refine sr rfl rfl rfl ((q_leq rfl rfl rfl)) (sr rfl rfl rfl ((q_and2 rfl rfl rfl)) (sr rfl rfl rfl ((q_move rfl rfl)) (sr rfl rfl rfl ((q_move rfl rfl)) ?_)))
  refine sr rfl rfl rfl ((q_len rfl (.cons rfl inferInstance (.nil)) (by exact fun w hw => Stb.cl (by assumption) hw))) ?_
  refine sr rfl rfl rfl ((q_gtr rfl rfl rfl)) (sr rfl rfl rfl ((q_or2 rfl rfl rfl)) (sw_nil (post_then ?_)))
  refine cw_cond rfl (fun h => ?_) (fun h => ?_)
  · skip
    have e1 : lawJts j = false := by
      unfold lawJts
      simp at h
      rcases h with h | h
      · rw [decide_eq_true (by omega : 10 < j.length), decide_eq_true (by omega : j.length ≤ 200)]; simp
      · rw [decide_eq_true (by omega : 300 < j.length)]; simp
    refine cw_seq (cw_region (sr rfl rfl rfl ((q_assign rfl rfl)) (sw_nil (post_then (cw_ret (post_then_r (post_ret1 rfl (resOk_tmp rfl) ?_)))))))
    exact fun w' hw => ⟨by rw [e1], (fun w h => Cl.sel (by exact .nil _) w h) _ hw⟩
  · skip
    have e0 : (!(decide (10 < j.length) && decide (j.length ≤ 200) || decide (300 < j.length))) = true := by
      simp at h
      simp; omega
    refine cw_skip (post_then (cw_seq (cw_seq (cw_region (sr rfl rfl rfl ((q_assign rfl rfl)) (sw_nil (post_then (cw_block ?_))))))))
    refine cw_loop (S := Nat) (fun k => [(0, [], sv), (3, [], .int .i64 k)]) (fun _ => Cl w [] []) (fun k => k ≤ j.length ∧ ∀ i, i < k → lawJt (nth j i) = true) (fun k => j.length - k) 0 ⟨by omega, fun j hj => by omega⟩ (by exact .cons rfl (.cons rfl .nil)) (fun w h => Cl.sel (by exact .nil _) w h) ?_
    rintro k ⟨hk, hbe⟩
    refine cw_seq (cw_seq (cw_region (sr rfl rfl rfl ((q_move rfl rfl)) (sr rfl rfl rfl ((q_move rfl rfl)) ?_))))
    refine sr rfl rfl rfl ((q_len rfl (.cons rfl inferInstance (.nil)) (by exact fun w hw => Stb.cl (by assumption) hw))) ?_
    refine sr rfl rfl rfl ((q_lss rfl rfl rfl)) (sw_nil (post_then ?_))
    refine cw_cond rfl (fun h2 => ?_) (fun h2 => ?_)
    · skip
      have hk' : k < j.length := by simp at h2; omega
      obtain ⟨x, hx⟩ : ∃ x, nth j k = x := ⟨_, rfl⟩
      have hxi := hp.here _ (nth_mem hk')
      rw [hx] at hxi
      obtain ⟨i1, i2, i3, i4⟩ := hxi
      have i1 := rd_stb i1
      have i2 := rd_stb i2
      have i3 := rd_stb i3
      have i4 := rd_stb i4
      refine cw_skip (post_then (cw_seq (cw_block (cw_seq (cw_region (sr rfl rfl rfl ((q_move rfl rfl)) (sr rfl rfl rfl ((q_move rfl rfl)) ?_)))))))
      refine sr rfl rfl rfl ((q_indexN rfl rfl rfl (by exact fun w hw => Stb.cl (by assumption) hw) (by intro hc; omega))) ?_
      refine sr rfl rfl rfl ((q_loadEl rfl rfl rfl (by exact fun w hw => Stb.cl (by assumption) hw) (by intro hc; omega))) ?_
      rw [hx]
      refine sw_x rfl rfl rfl (e_alloc rfl) (fun b4 => ?_)
      refine sw_eff0 rfl rfl (e_store (i := 0) rfl rfl rfl rfl rfl rfl rfl rfl) (sw_nil (post_then (cw_seq (cw_region (sr rfl rfl rfl ((q_fieldAddr rfl rfl)) ?_)))))
      refine sr rfl rfl rfl ((q_loadC rfl rfl (by exact .head _) rfl)) ?_
      refine sw_step rfl rfl rfl (q_call (CanCall.mk Tryz.call18) rfl (.cons rfl inferInstance (.cons rfl inferInstance (.nil))) (fun _ w hw => callq hw (lawPhones_spec _ _ _ (by omega) w (by exact stb_arg hw (by assumption))))) ?_
      refine sr rfl rfl rfl ((q_not rfl rfl)) (sr rfl rfl rfl ((q_move rfl rfl)) (sr rfl rfl rfl ((q_fieldAddr rfl rfl)) ?_))
      refine sr rfl rfl rfl ((q_loadC rfl rfl (by exact .head _) rfl)) ?_
      refine sw_step rfl rfl rfl (q_call (CanCall.mk Tryz.call18) rfl (.cons rfl inferInstance (.cons rfl inferInstance (.nil))) (fun _ w hw => callq hw (lawPhones_spec _ _ _ (by omega) w (by exact stb_arg hw (by assumption))))) ?_
      refine sr rfl rfl rfl ((q_not rfl rfl)) (sr rfl rfl rfl ((q_or2 rfl rfl rfl)) (sr rfl rfl rfl ((q_move rfl rfl)) (sr rfl rfl rfl ((q_fieldAddr rfl rfl)) ?_)))
      refine sr rfl rfl rfl ((q_loadC rfl rfl (by exact .head _) rfl)) ?_
      refine sw_step rfl rfl rfl (q_call (CanCall.mk Tryz.call18) rfl (.cons rfl inferInstance (.cons rfl inferInstance (.nil))) (fun _ w hw => callq hw (lawPhones_spec _ _ _ (by omega) w (by exact stb_arg hw (by assumption))))) ?_
      refine sr rfl rfl rfl ((q_not rfl rfl)) (sr rfl rfl rfl ((q_or2 rfl rfl rfl)) (sr rfl rfl rfl ((q_move rfl rfl)) (sr rfl rfl rfl ((q_fieldAddr rfl rfl)) ?_)))
      refine sr rfl rfl rfl ((q_loadC rfl rfl (by exact .head _) rfl)) ?_
      refine sw_step rfl rfl rfl (q_call (CanCall.mk Tryz.call18) rfl (.cons rfl inferInstance (.cons rfl inferInstance (.nil))) (fun _ w hw => callq hw (lawPhones_spec _ _ _ (by omega) w (by exact stb_arg hw (by assumption))))) ?_
      refine sr rfl rfl rfl ((q_not rfl rfl)) (sr rfl rfl rfl ((q_or2 rfl rfl rfl)) (sw_nil (post_then ?_)))
      refine cw_cond rfl (fun h3 => ?_) (fun h3 => ?_)
      · skip
        have e1 : lawJts j = false := by
          unfold lawJts
          rw [all_no hk' (by
            rw [hx]; unfold lawJt
            cases q1 : lawPh x.ll 5 <;> cases q2 : lawPh x.rl 5 <;> cases q3 : lawPh x.toll 5 <;> cases q4 : lawPh x.torl 5 <;> simp [q1, q2, q3, q4] at h3 ⊢)]
          simp
        refine cw_seq (cw_region (sr rfl rfl rfl ((q_assign rfl rfl)) (sw_nil (post_then (cw_ret (post_blk_r (post_then_r (post_then_r (post_blk_r (post_then_r (post_ret1 rfl (resOk_tmp rfl) ?_)))))))))))
        exact fun w' hw => ⟨by rw [e1], (fun w h => Cl.sel (by exact .nil _) w h) _ hw⟩
      · skip
        have e1 : lawJt (nth j k) = true := by
          rw [hx]; unfold lawJt
          cases q1 : lawPh x.ll 5 <;> cases q2 : lawPh x.rl 5 <;> cases q3 : lawPh x.toll 5 <;> cases q4 : lawPh x.torl 5 <;> simp [q1, q2, q3, q4] at h3 ⊢
        refine cw_skip (post_blk (post_then (cw_region (sr rfl rfl rfl ((q_move rfl rfl)) ?_))))
        refine sr rfl rfl rfl ((q_add rfl rfl rfl (by intro hc; omega))) ?_
        refine sr rfl rfl rfl ((q_assign rfl rfl)) (sw_nil ?_)
        exact post_next (k + 1) (by exact .cons rfl (.cons rfl .nil)) (fun w h => Cl.sel (by exact .nil _) w h) ⟨by omega, fun i hi => by
          rcases Nat.lt_or_ge i k with h6 | h6
          · exact hbe i h6
          · have : i = k := by omega
            subst this; exact e1⟩ (by omega)
    · skip
      have hk' : k = j.length := by simp at h2; omega
      subst hk'
      have e1 : lawJts j = true := by unfold lawJts; rw [all_yes hbe, e0]; rfl
      refine cw_exit (post_then_x (post_then_x (post_blk_eq (post_then (cw_seq (cw_region (sr rfl rfl rfl ((q_assign rfl rfl)) (sw_nil (post_then (cw_ret (post_ret1 rfl (resOk_tmp rfl) ?_)))))))))))
      exact fun w' hw => ⟨by rw [e1], (fun w h => Cl.sel (by exact .nil _) w h) _ hw⟩
def JzOk (x : Jnt) : Prop := (∀ b ∈ x.ll, b.size ≤ 9223372036854775807) ∧ (∀ b ∈ x.rl, b.size ≤ 9223372036854775807) ∧ (∀ b ∈ x.toll, b.size ≤ 9223372036854775807) ∧ ∀ b ∈ x.torl, b.size ≤ 9223372036854775807
theorem refJoints_spec (sv : Value) (j : List Jnt) (hz : ∀ x ∈ j, JzOk x ∧ x.ll.length ≤ 1000 ∧ x.rl.length ≤ 1000) (w : World) (hs : Stb w [] (RdL sv j)) (hp : Stb w [] fun w' => ∀ u ∈ j, JntIn u w') : Calls Tryz.prog 45 #[sv] w fun e w' => e = .returned (.bool (j.all jointOk)) ∧ Cl w [] [] w' := by
  have hL := rd_len hs.here
  refine calls_cw (vs := [_]) Tryz.func45 rfl Tryz.ntmps45 rfl (Cl.start0 w) (cw_seq (cw_region (sr rfl rfl rfl ((q_assign rfl rfl)) (sw_nil (post_then (cw_seq (cw_seq (cw_region (sr rfl rfl rfl ((q_assign rfl rfl)) (sw_nil (post_then (cw_block ?_))))))))))))
  refine cw_loop (S := Nat) (fun k => [(0, [], sv), (3, [], .int .i64 k)]) (fun _ => Cl w [] []) (fun k => k ≤ j.length ∧ ∀ i, i < k → jointOk (nth j i) = true) (fun k => j.length - k) 0 ⟨by omega, fun j hj => by omega⟩ (by exact .cons rfl (.cons rfl .nil)) (fun w h => Cl.sel (by exact .nil _) w h) ?_
  rintro k ⟨hk, hbe⟩
  refine cw_seq (cw_seq (cw_region (sr rfl rfl rfl ((q_move rfl rfl)) (sr rfl rfl rfl ((q_move rfl rfl)) ?_))))
  refine sr rfl rfl rfl ((q_len rfl (.cons rfl inferInstance (.nil)) (by exact fun w hw => Stb.cl (by assumption) hw))) ?_
  refine sr rfl rfl rfl ((q_lss rfl rfl rfl)) (sw_nil (post_then ?_))
  refine cw_cond rfl (fun h2 => ?_) (fun h2 => ?_)
  · skip
    have hk' : k < j.length := by simp at h2; omega
    obtain ⟨x, hx⟩ : ∃ x, nth j k = x := ⟨_, rfl⟩
    have hxi := hp.here _ (nth_mem hk')
    have hzx := hz _ (nth_mem hk')
    rw [hx] at hxi hzx
    obtain ⟨⟨z1, z2, z3, z4⟩, zl1, zl2⟩ := hzx
    obtain ⟨i1, i2, i3, i4⟩ := hxi
    have i1 := rd_stb i1
    have i2 := rd_stb i2
    have i3 := rd_stb i3
    have i4 := rd_stb i4
    have n1 := rd_len i1.here
    have n2 := rd_len i2.here
    refine cw_skip (post_then (cw_seq (cw_block (cw_seq (cw_region (sr rfl rfl rfl ((q_move rfl rfl)) (sr rfl rfl rfl ((q_move rfl rfl)) ?_)))))))
    refine sr rfl rfl rfl ((q_indexN rfl rfl rfl (by exact fun w hw => Stb.cl (by assumption) hw) (by intro hc; omega))) ?_
    refine sr rfl rfl rfl ((q_loadEl rfl rfl rfl (by exact fun w hw => Stb.cl (by assumption) hw) (by intro hc; omega))) ?_
    rw [hx]
    refine sw_x rfl rfl rfl (e_alloc rfl) (fun b4 => ?_)
    refine sw_eff0 rfl rfl (e_store (i := 0) rfl rfl rfl rfl rfl rfl rfl rfl) (sw_nil (post_then (cw_seq (cw_region (sr rfl rfl rfl ((q_fieldAddr rfl rfl)) ?_)))))
    refine sr rfl rfl rfl ((q_loadC rfl rfl (by exact .head _) rfl)) ?_
    refine sw_step rfl rfl rfl (q_call (CanCall.mk Tryz.call23) rfl (.cons rfl inferInstance (.cons rfl inferInstance (.nil))) (fun _ w hw => callq hw (refPhones_spec _ _ _ w (by exact stb_arg hw (by assumption)) (by assumption)))) ?_
    refine sr rfl rfl rfl ((q_not rfl rfl)) (sr rfl rfl rfl ((q_move rfl rfl)) (sr rfl rfl rfl ((q_fieldAddr rfl rfl)) ?_))
    refine sr rfl rfl rfl ((q_loadC rfl rfl (by exact .head _) rfl)) ?_
    refine sw_step rfl rfl rfl (q_call (CanCall.mk Tryz.call23) rfl (.cons rfl inferInstance (.cons rfl inferInstance (.nil))) (fun _ w hw => callq hw (refPhones_spec _ _ _ w (by exact stb_arg hw (by assumption)) (by assumption)))) ?_
    refine sr rfl rfl rfl ((q_not rfl rfl)) (sr rfl rfl rfl ((q_or2 rfl rfl rfl)) (sr rfl rfl rfl ((q_move rfl rfl)) (sr rfl rfl rfl ((q_fieldAddr rfl rfl)) ?_)))
    refine sr rfl rfl rfl ((q_loadC rfl rfl (by exact .head _) rfl)) ?_
    refine sw_step rfl rfl rfl (q_call (CanCall.mk Tryz.call23) rfl (.cons rfl inferInstance (.cons rfl inferInstance (.nil))) (fun _ w hw => callq hw (refPhones_spec _ _ _ w (by exact stb_arg hw (by assumption)) (by assumption)))) ?_
    refine sr rfl rfl rfl ((q_not rfl rfl)) (sr rfl rfl rfl ((q_or2 rfl rfl rfl)) (sr rfl rfl rfl ((q_move rfl rfl)) (sr rfl rfl rfl ((q_fieldAddr rfl rfl)) ?_)))
    refine sr rfl rfl rfl ((q_loadC rfl rfl (by exact .head _) rfl)) ?_
    refine sw_step rfl rfl rfl (q_call (CanCall.mk Tryz.call23) rfl (.cons rfl inferInstance (.cons rfl inferInstance (.nil))) (fun _ w hw => callq hw (refPhones_spec _ _ _ w (by exact stb_arg hw (by assumption)) (by assumption)))) ?_
    refine sr rfl rfl rfl ((q_not rfl rfl)) (sr rfl rfl rfl ((q_or2 rfl rfl rfl)) (sr rfl rfl rfl ((q_move rfl rfl)) (sr rfl rfl rfl ((q_fieldAddr rfl rfl)) ?_)))
    refine sr rfl rfl rfl ((q_loadC rfl rfl (by exact .head _) rfl)) ?_
    refine sr rfl rfl rfl ((q_len rfl (.cons rfl inferInstance (.nil)) (by exact fun w hw => Stb.cl (by assumption) hw))) ?_
    refine sr rfl rfl rfl ((q_fieldAddr rfl rfl)) ?_
    refine sr rfl rfl rfl ((q_loadC rfl rfl (by exact .head _) rfl)) ?_
    refine sr rfl rfl rfl ((q_len rfl (.cons rfl inferInstance (.nil)) (by exact fun w hw => Stb.cl (by assumption) hw))) ?_
    refine sr rfl rfl rfl ((q_add rfl rfl rfl (by intro hc; omega))) ?_
    refine sr rfl rfl rfl ((q_eql rfl rfl rfl)) (sr rfl rfl rfl ((q_or2 rfl rfl rfl)) (sw_nil (post_then ?_)))
    refine cw_cond rfl (fun h3 => ?_) (fun h3 => ?_)
    · skip
      have e1 : j.all jointOk = false := all_no hk' (by
        rw [hx]; unfold jointOk
        cases q1 : phonesOk x.ll 3 <;> cases q2 : phonesOk x.rl 3 <;> cases q3 : phonesOk x.toll 3 <;> cases q4 : phonesOk x.torl 3 <;> simp [q1, q2, q3, q4] at h3 ⊢
        rw [← List.length_eq_zero_iff, ← List.length_eq_zero_iff]
        omega)
      refine cw_seq (cw_region (sr rfl rfl rfl ((q_assign rfl rfl)) (sw_nil (post_then (cw_ret (post_blk_r (post_then_r (post_then_r (post_blk_r (post_then_r (post_ret1 rfl (resOk_tmp rfl) ?_)))))))))))
      exact fun w' hw => ⟨by rw [e1], (fun w h => Cl.sel (by exact .nil _) w h) _ hw⟩
    · skip
      have e1 : jointOk (nth j k) = true := by
        rw [hx]; unfold jointOk
        cases q1 : phonesOk x.ll 3 <;> cases q2 : phonesOk x.rl 3 <;> cases q3 : phonesOk x.toll 3 <;> cases q4 : phonesOk x.torl 3 <;> simp [q1, q2, q3, q4] at h3 ⊢
        omega
      refine cw_skip (post_blk (post_then (cw_region (sr rfl rfl rfl ((q_move rfl rfl)) ?_))))
      refine sr rfl rfl rfl ((q_add rfl rfl rfl (by intro hc; omega))) ?_
      refine sr rfl rfl rfl ((q_assign rfl rfl)) (sw_nil ?_)
      exact post_next (k + 1) (by exact .cons rfl (.cons rfl .nil)) (fun w h => Cl.sel (by exact .nil _) w h) ⟨by omega, fun i hi => by
        rcases Nat.lt_or_ge i k with h6 | h6
        · exact hbe i h6
        · have : i = k := by omega
          subst this; exact e1⟩ (by omega)
  · skip
    have hk' : k = j.length := by simp at h2; omega
    subst hk'
    have e1 : j.all jointOk = true := all_yes hbe
    refine cw_exit (post_then_x (post_then_x (post_blk_eq (post_then (cw_seq (cw_region (sr rfl rfl rfl ((q_assign rfl rfl)) (sw_nil (post_then (cw_ret (post_ret1 rfl (resOk_tmp rfl) ?_)))))))))))
    exact fun w' hw => ⟨by rw [e1], (fun w h => Cl.sel (by exact .nil _) w h) _ hw⟩
theorem jts_z {j : List Jnt} (hlaw : lawJts j = true) : ∀ x ∈ j, JzOk x ∧ x.ll.length ≤ 1000 ∧ x.rl.length ≤ 1000 := fun x hx => by
  unfold lawJts lawJt lawPh at hlaw
  simp only [Bool.and_eq_true, List.all_eq_true, decide_eq_true_eq] at hlaw
  obtain ⟨⟨⟨h1, h2⟩, h3⟩, h4⟩ := hlaw.2 x hx
  refine ⟨⟨fun b hb => ?_, fun b hb => ?_, fun b hb => ?_, fun b hb => ?_⟩, by omega, by omega⟩
  · have := h1.2 b hb; omega
  · have := h2.2 b hb; omega
  · have := h3.2 b hb; omega
  · have := h4.2 b hb; omega
theorem same_in {w : World} {j : List Jnt} (h : Stb w [] fun w' => ∀ u ∈ j, JntIn u w') : Stb w [] fun w' => ∀ u ∈ j.map sameJ, JntIn u w' := ⟨fun w' k u hu => by
  obtain ⟨y, hy, rfl⟩ := List.mem_map.1 hu
  obtain ⟨h1, h2, _, _⟩ := h.stb w' k y hy
  exact ⟨h1, h2, h1, h2⟩⟩
theorem never_in {w : World} {s t : SlV} (h : Stb w [] (RdL s.v [noneB])) (h2 : Stb w [] (RdL t.v [neverB])) : Stb w [] fun w' => ∀ u ∈ [neverJ s t], JntIn u w' := ⟨fun w' k u hu => by
  rw [List.mem_singleton] at hu; subst hu
  exact ⟨h.stb w' k, h2.stb w' k, rd_nil0 w', rd_nil0 w'⟩⟩
theorem apart_spec (sj sw : SlV) (j : List Jnt) (ll : List (List ByteArray)) (hzl : ∀ l ∈ ll, ∀ b ∈ l, b.size ≤ 9223372036854775807) (w : World) (hT : Stb w [] Tab) (hj : Stb w [] (RdL sj.v j)) (hji : Stb w [] fun w' => ∀ u ∈ j, JntIn u w') (hsw : Stb w [] (RdRR sw.v ll)) :
    Calls Tryz.prog 9 #[sj.v, sw.v] w fun e w' => e = .returned (.bool true) ∧ Cl w [] [] w' := by
  obtain ⟨vs, g1, g2⟩ := hsw.here
  have h0 := rd_stb g1
  have hR := rdR_stb g2
  have hvl := g2.1
  have hLj := rd_len hj.here
  have hLw := rd_len h0.here
  refine calls_cw (vs := [_, _]) Tryz.func9 rfl Tryz.ntmps9 rfl (Cl.start0 w) (cw_seq (cw_region (sr rfl rfl rfl ((q_assign rfl rfl)) (sw_nil (post_then (cw_seq (cw_seq (cw_region (sr rfl rfl rfl ((q_move rfl rfl)) (sw_step rfl rfl rfl (q_call (CanCall.mk Tryz.call44) rfl (.cons rfl inferInstance (.nil)) (fun _ w hw => callq hw (lawJoints_spec _ j w (stb_arg hw hj) (stb_arg hw hji)))) (sr rfl rfl rfl ((q_not rfl rfl)) (sr rfl rfl rfl ((q_move rfl rfl)) (sr rfl rfl rfl ((q_move rfl rfl)) ?_)))))))))))))
  refine sr rfl rfl rfl ((q_len rfl (.cons rfl inferInstance (.nil)) (by exact fun w hw => Stb.cl (by assumption) hw))) ?_
  refine sr rfl rfl rfl ((q_gtr rfl rfl rfl)) (sr rfl rfl rfl ((q_or2 rfl rfl rfl)) (sr rfl rfl rfl ((q_move rfl rfl)) (sr rfl rfl rfl ((q_move rfl rfl)) ?_)))
  refine sr rfl rfl rfl ((q_len rfl (.cons rfl inferInstance (.nil)) (by exact fun w hw => Stb.cl (by assumption) hw))) ?_
  refine sr rfl rfl rfl ((q_gtr rfl rfl rfl)) (sr rfl rfl rfl ((q_or2 rfl rfl rfl)) (sr rfl rfl rfl ((q_move rfl rfl)) (sr rfl rfl rfl ((q_move rfl rfl)) ?_)))
  refine sw_step rfl rfl rfl (q_call (CanCall.mk Tryz.call45) rfl (.cons rfl inferInstance (.nil)) (fun hcs w hw => callq hw (refJoints_spec _ j (jts_z (by simp [AllT] at hcs; exact hcs.1.1)) w (stb_arg hw hj) (stb_arg hw hji)))) ?_
  refine sr rfl rfl rfl ((q_not rfl rfl)) (sr rfl rfl rfl ((q_or2 rfl rfl rfl)) (sw_nil (post_then ?_)))
  refine cw_cond rfl (fun h => ?_) (fun h => ?_)
  · skip
    refine cw_seq (cw_region ?_)
    refine sw_step rfl rfl rfl (q_call (CanCall.mk Tryz.call19) rfl (.nil) (fun _ w hw => callq hw (known_spec w (stb_arg hw (by assumption))))) ?_
    refine sr rfl rfl rfl ((q_assign rfl rfl)) (sw_nil (post_then (cw_ret (post_then_r (post_ret1 rfl (resOk_tmp rfl) ?_)))))
    exact fun w' hw => ⟨rfl, (fun w h => Cl.sel (by exact .nil _) w h) _ hw⟩
  · skip
    have hc : j.length ≤ 10 ∧ ll.length ≤ 8 ∧ j.all jointOk = true := by
      simp only [Bool.or_eq_false_iff, decide_eq_false_iff_not, Bool.not_eq_false'] at h
      exact ⟨by omega, by omega, h.2⟩
    obtain ⟨hj10, hl8, hjo⟩ := hc
    refine cw_skip (post_then (cw_seq (cw_seq (cw_region (sr rfl rfl rfl ((q_assign rfl rfl)) (sw_nil (post_then (cw_block ?_))))))))
    refine cw_loop (S := Nat) (fun k => [(0, [], sj.v), (1, [], sw.v), (5, [], .int .i64 k)]) (fun _ => Cl w [] []) (fun k => k ≤ ll.length ∧ ∀ i, i < k → phonesOk (nth ll i) 100 = true) (fun k => ll.length - k) 0 ⟨by omega, fun j hj => by omega⟩ (by exact .cons rfl (.cons rfl (.cons rfl .nil))) (fun w h => Cl.sel (by exact .nil _) w h) ?_
    rintro k ⟨hk, hbe⟩
    refine cw_seq (cw_seq (cw_region (sr rfl rfl rfl ((q_move rfl rfl)) (sr rfl rfl rfl ((q_move rfl rfl)) ?_))))
    refine sr rfl rfl rfl ((q_len rfl (.cons rfl inferInstance (.nil)) (by exact fun w hw => Stb.cl (by assumption) hw))) ?_
    refine sr rfl rfl rfl ((q_lss rfl rfl rfl)) (sw_nil (post_then ?_))
    refine cw_cond rfl (fun h2 => ?_) (fun h2 => ?_)
    · skip
      have hk' : k < ll.length := by simp at h2; omega
      have hrow : Stb w [] (RdL (nth vs k).v (nth ll k)) := stb_row hR hk'
      have hzr : ∀ b ∈ nth ll k, b.size ≤ 9223372036854775807 := hzl _ (nth_mem hk')
      refine cw_skip (post_then (cw_seq (cw_block (cw_seq (cw_region (sr rfl rfl rfl ((q_move rfl rfl)) (sr rfl rfl rfl ((q_move rfl rfl)) ?_)))))))
      refine sr rfl rfl rfl ((q_indexN rfl rfl rfl (by exact fun w hw => Stb.cl (by assumption) hw) (by intro hc; omega))) ?_
      refine sr rfl rfl rfl ((q_loadEl rfl rfl rfl (by exact fun w hw => Stb.cl (by assumption) hw) (by intro hc; omega))) ?_
      refine sw_step rfl rfl rfl (q_call (CanCall.mk Tryz.call23) rfl (.cons rfl inferInstance (.cons rfl inferInstance (.nil))) (fun _ w hw => callq hw (refPhones_spec _ _ _ w (by exact stb_arg hw (by assumption)) (by assumption)))) ?_
      refine sr rfl rfl rfl ((q_not rfl rfl)) (sw_nil (post_then ?_))
      refine cw_cond rfl (fun h3 => ?_) (fun h3 => ?_)
      · skip
        refine cw_seq (cw_region ?_)
        refine sw_step rfl rfl rfl (q_call (CanCall.mk Tryz.call19) rfl (.nil) (fun _ w hw => callq hw (known_spec w (stb_arg hw (by assumption))))) ?_
        refine sr rfl rfl rfl ((q_assign rfl rfl)) (sw_nil (post_then (cw_ret (post_blk_r (post_then_r (post_then_r (post_blk_r (post_then_r (post_ret1 rfl (resOk_tmp rfl) ?_)))))))))
        exact fun w' hw => ⟨rfl, (fun w h => Cl.sel (by exact .nil _) w h) _ hw⟩
      · skip
        have e1 : phonesOk (nth ll k) 100 = true := by simpa using h3
        refine cw_skip (post_blk (post_then (cw_region (sr rfl rfl rfl ((q_move rfl rfl)) ?_))))
        refine sr rfl rfl rfl ((q_add rfl rfl rfl (by intro hc; omega))) ?_
        refine sr rfl rfl rfl ((q_assign rfl rfl)) (sw_nil ?_)
        exact post_next (k + 1) (by exact .cons rfl (.cons rfl (.cons rfl .nil))) (fun w h => Cl.sel (by exact .nil _) w h) ⟨by omega, fun i hi => by
          rcases Nat.lt_or_ge i k with h6 | h6
          · exact hbe i h6
          · have : i = k := by omega
            subst this; exact e1⟩ (by omega)
    · skip
      have hk' : k = ll.length := by simp at h2; omega
      subst hk'
      have hp120 : ∀ l ∈ ll, phonesOk l 120 = true := fun l hl => by
        obtain ⟨i, hi, rfl⟩ := List.getElem_of_mem hl
        have := hbe i hi
        rw [nth_get hi] at this
        simp only [phonesOk, Bool.and_eq_true, decide_eq_true_eq] at this ⊢
        exact ⟨this.1, by omega⟩
      refine cw_exit (post_then_x (post_then_x (post_blk_eq (post_then (cw_seq (cw_region (sr rfl rfl rfl ((q_assign rfl rfl)) (sw_nil (post_then (cw_seq (cw_seq (cw_region (sr rfl rfl rfl ((q_assign rfl rfl)) (sw_nil (post_then (cw_block ?_))))))))))))))))
      refine cw_loop (S := Nat × SlV) (fun y => [(0, [], sj.v), (1, [], sw.v), (6, [], y.2.v), (7, [], .int .i64 y.1)]) (fun y => Cl w [] [ownL 81 y.2.v ((j.take y.1).map sameJ)]) (fun y => y.1 ≤ j.length) (fun y => j.length - y.1) (0, ⟨none, 0, 0⟩) (by simp) (by exact .cons rfl (.cons rfl (.cons rfl (.cons rfl .nil)))) (fun w' h => Cl.addNil 81 ((fun w h => Cl.sel (by exact .nil _) w h) _ h)) ?_
      rintro ⟨k, so⟩ hk
      dsimp only at hk ⊢
      have hkl : ((j.take k).map sameJ).length ≤ 10 := by rw [List.length_map, List.length_take]; omega
      refine cw_seq (cw_seq (cw_region (sr rfl rfl rfl ((q_move rfl rfl)) (sr rfl rfl rfl ((q_move rfl rfl)) ?_))))
      refine sr rfl rfl rfl ((q_len rfl (.cons rfl inferInstance (.nil)) (by exact fun w hw => Stb.cl (by assumption) hw))) ?_
      refine sr rfl rfl rfl ((q_lss rfl rfl rfl)) (sw_nil (post_then ?_))
      refine cw_cond rfl (fun h4 => ?_) (fun h4 => ?_)
      · skip
        have hk' : k < j.length := by simp at h4; omega
        refine cw_skip (post_then (cw_seq (cw_block (cw_region_a (Cl w [] []) [] mixed_Tryz ?_))))
        refine aw_pure 0 rfl (by kernel_rfl) (by kernel_rfl) (by kernel_rfl) (by kernel_rfl) (by kernel_rfl) rfl rfl rfl (q_move rfl rfl) ?_
        refine aw_pure 1 rfl (by kernel_rfl) (by kernel_rfl) (by kernel_rfl) (by kernel_rfl) (by kernel_rfl) rfl rfl rfl (q_move rfl rfl) ?_
        refine aw_pure 2 rfl (by kernel_rfl) (by kernel_rfl) (by kernel_rfl) (by kernel_rfl) (by kernel_rfl) rfl rfl rfl (q_move rfl rfl) ?_
        refine aw_take 3 (fun w h => Cl.sel (by exact .nil _) w h) rfl (by kernel_rfl) (by kernel_rfl) (by kernel_rfl) (by kernel_rfl) (by kernel_rfl) (by kernel_rfl) rfl rfl rfl (q_indexN rfl rfl rfl (by exact fun w hw => Stb.cl (by assumption) hw) (by intro hc; omega)) ?_
        refine aw_take 4 (fun w h => Cl.sel (by exact .nil _) w h) rfl (by kernel_rfl) (by kernel_rfl) (by kernel_rfl) (by kernel_rfl) (by kernel_rfl) (by kernel_rfl) rfl rfl rfl (q_fieldEl rfl rfl (by exact fun w hw => Stb.cl (by assumption) hw) (by intro hc; omega)) ?_
        refine aw_take 5 (fun w h => Cl.sel (by exact .nil _) w h) rfl (by kernel_rfl) (by kernel_rfl) (by kernel_rfl) (by kernel_rfl) (by kernel_rfl) (by kernel_rfl) rfl rfl rfl (q_loadF rfl rfl rfl (by exact fun w hw => Stb.cl (by assumption) hw) (by intro hc; omega) rfl) ?_
        refine aw_pure 6 rfl (by kernel_rfl) (by kernel_rfl) (by kernel_rfl) (by kernel_rfl) (by kernel_rfl) rfl rfl rfl (q_move rfl rfl) ?_
        refine aw_pure 7 rfl (by kernel_rfl) (by kernel_rfl) (by kernel_rfl) (by kernel_rfl) (by kernel_rfl) rfl rfl rfl (q_move rfl rfl) ?_
        refine aw_take 8 (fun w h => Cl.sel (by exact .nil _) w h) rfl (by kernel_rfl) (by kernel_rfl) (by kernel_rfl) (by kernel_rfl) (by kernel_rfl) (by kernel_rfl) rfl rfl rfl (q_indexN rfl rfl rfl (by exact fun w hw => Stb.cl (by assumption) hw) (by intro hc; omega)) ?_
        refine aw_take 9 (fun w h => Cl.sel (by exact .nil _) w h) rfl (by kernel_rfl) (by kernel_rfl) (by kernel_rfl) (by kernel_rfl) (by kernel_rfl) (by kernel_rfl) rfl rfl rfl (q_fieldEl rfl rfl (by exact fun w hw => Stb.cl (by assumption) hw) (by intro hc; omega)) ?_
        refine aw_take 10 (fun w h => Cl.sel (by exact .nil _) w h) rfl (by kernel_rfl) (by kernel_rfl) (by kernel_rfl) (by kernel_rfl) (by kernel_rfl) (by kernel_rfl) rfl rfl rfl (q_loadF rfl rfl rfl (by exact fun w hw => Stb.cl (by assumption) hw) (by intro hc; omega) rfl) ?_
        refine aw_pure 11 rfl (by kernel_rfl) (by kernel_rfl) (by kernel_rfl) (by kernel_rfl) (by kernel_rfl) rfl rfl rfl (q_move rfl rfl) ?_
        refine aw_pure 12 rfl (by kernel_rfl) (by kernel_rfl) (by kernel_rfl) (by kernel_rfl) (by kernel_rfl) rfl rfl rfl (q_move rfl rfl) ?_
        refine aw_take 13 (fun w h => Cl.sel (by exact .nil _) w h) rfl (by kernel_rfl) (by kernel_rfl) (by kernel_rfl) (by kernel_rfl) (by kernel_rfl) (by kernel_rfl) rfl rfl rfl (q_indexN rfl rfl rfl (by exact fun w hw => Stb.cl (by assumption) hw) (by intro hc; omega)) ?_
        refine aw_take 14 (fun w h => Cl.sel (by exact .nil _) w h) rfl (by kernel_rfl) (by kernel_rfl) (by kernel_rfl) (by kernel_rfl) (by kernel_rfl) (by kernel_rfl) rfl rfl rfl (q_fieldEl rfl rfl (by exact fun w hw => Stb.cl (by assumption) hw) (by intro hc; omega)) ?_
        refine aw_take 15 (fun w h => Cl.sel (by exact .nil _) w h) rfl (by kernel_rfl) (by kernel_rfl) (by kernel_rfl) (by kernel_rfl) (by kernel_rfl) (by kernel_rfl) rfl rfl rfl (q_loadF rfl rfl rfl (by exact fun w hw => Stb.cl (by assumption) hw) (by intro hc; omega) rfl) ?_
        refine aw_pure 16 rfl (by kernel_rfl) (by kernel_rfl) (by kernel_rfl) (by kernel_rfl) (by kernel_rfl) rfl rfl rfl (q_move rfl rfl) ?_
        refine aw_pure 17 rfl (by kernel_rfl) (by kernel_rfl) (by kernel_rfl) (by kernel_rfl) (by kernel_rfl) rfl rfl rfl (q_move rfl rfl) ?_
        refine aw_take 18 (fun w h => Cl.sel (by exact .nil _) w h) rfl (by kernel_rfl) (by kernel_rfl) (by kernel_rfl) (by kernel_rfl) (by kernel_rfl) (by kernel_rfl) rfl rfl rfl (q_indexN rfl rfl rfl (by exact fun w hw => Stb.cl (by assumption) hw) (by intro hc; omega)) ?_
        refine aw_take 19 (fun w h => Cl.sel (by exact .nil _) w h) rfl (by kernel_rfl) (by kernel_rfl) (by kernel_rfl) (by kernel_rfl) (by kernel_rfl) (by kernel_rfl) rfl rfl rfl (q_fieldEl rfl rfl (by exact fun w hw => Stb.cl (by assumption) hw) (by intro hc; omega)) ?_
        refine aw_take 20 (fun w h => Cl.sel (by exact .nil _) w h) rfl (by kernel_rfl) (by kernel_rfl) (by kernel_rfl) (by kernel_rfl) (by kernel_rfl) (by kernel_rfl) rfl rfl rfl (q_loadF rfl rfl rfl (by exact fun w hw => Stb.cl (by assumption) hw) (by intro hc; omega) rfl) ?_
        refine aw_pure 21 rfl (by kernel_rfl) (by kernel_rfl) (by kernel_rfl) (by kernel_rfl) (by kernel_rfl) rfl rfl rfl (q_build rfl (.cons rfl inferInstance (.cons rfl inferInstance (.cons rfl inferInstance (.cons rfl inferInstance (.nil))))) rfl) ?_
        refine aw_x 22 (by kernel_rfl) rfl rfl rfl rfl (e_buildL (α := Jnt) (l := [sameJ (nth j k)]) rfl (.cons rfl inferInstance (.nil)) rfl rfl rfl rfl) (by intro hb; exact fun _ => (fun w h => Cl.sel (by exact .nil _) w h)) (fun s77 => ?_)
        refine aw_x 23 (by kernel_rfl) rfl rfl rfl rfl (e_append (i := 1) rfl (.cons rfl inferInstance (.cons rfl inferInstance (.nil))) rfl rfl (by exact fun w hw => rd_own hw (by exact .head _)) (by first | omega | (simp only [List.length_set, List.length_append, List.length_cons, List.length_nil, List.length_replicate, List.length_take, List.length_drop, List.length_map]; omega)) rfl) (by intro hb; exact fun _ => (fun w h => Cl.sel (by exact .nil _) w h)) (fun s78 => ?_)
        refine aw_pure 24 rfl (by kernel_rfl) (by kernel_rfl) (by kernel_rfl) (by kernel_rfl) (by kernel_rfl) rfl rfl rfl (q_assign rfl rfl) ?_
        refine aw_end (by kernel_rfl) ?_
        refine post_blk (post_then (cw_region (sr rfl rfl rfl ((q_move rfl rfl)) ?_)))
        refine sr rfl rfl rfl ((q_add rfl rfl rfl (by intro hc; omega))) ?_
        refine sr rfl rfl rfl ((q_assign rfl rfl)) (sw_nil ?_)
        refine post_next (k + 1, s78) (by exact .cons rfl (.cons rfl (.cons rfl (.cons rfl .nil)))) (fun w' h => ?_) (by simp only; omega) (by simp only; omega)
        simp only
        rw [List.take_succ_eq_append_getElem hk', List.map_append, ← nth_get hk']
        exact (fun w h => Cl.sel (by exact .take 1 rfl (.nil _)) w h) _ h
      · skip
        have hk' : k = j.length := by simp at h4; omega
        subst hk'
        rw [List.take_length]
        obtain ⟨a1, a2⟩ := join_still (j := []) (ll := ll) (by simp) rfl (by omega) hp120 (fun i _ => rfl)
        obtain ⟨b1, b2⟩ := join_still (j := j.map sameJ) (ll := ll) (by rw [List.length_map]; omega) (by rw [List.all_eq_true]; intro x hx; obtain ⟨y, hy, rfl⟩ := List.mem_map.1 hx; exact sameJ_ok (List.all_eq_true.1 hjo y hy)) (by omega) hp120 (fun i _ => same_step j _ _)
        refine cw_exit (post_then_x (post_then_x (post_blk_eq (post_then (cw_seq (cw_region (sr rfl rfl rfl ((q_move rfl rfl)) ?_)))))))
        refine sw_x rfl rfl rfl (e_call (CanCall.mk Tryz.call46) rfl (.cons rfl inferInstance (.cons rfl inferInstance (.nil))) (fun w1 hw => join_spec ⟨none, 0, 0⟩ sw [] ll w1 ⟨fun w' _ => rd_nil0 w'⟩ ⟨fun w' _ u hu => by cases hu⟩ (stb_arg hw hsw))) (fun s81 => ?_)
        refine sw_imp fun _ => ?_
        rw [a1, a2]
        refine sr rfl rfl rfl ((q_move rfl rfl)) (sr rfl rfl rfl ((q_extract rfl rfl rfl)) (sr rfl rfl rfl ((q_extract rfl rfl rfl)) (sr rfl rfl rfl ((q_assign rfl rfl)) (sr rfl rfl rfl ((q_assign rfl rfl)) (sw_nil (post_then (cw_seq (cw_region (sr rfl rfl rfl ((q_move rfl rfl)) (sr rfl rfl rfl ((q_move rfl rfl)) ?_))))))))))
        refine sw_x rfl rfl rfl (e_call (CanCall.mk Tryz.call46) rfl (.cons rfl inferInstance (.cons rfl inferInstance (.nil))) (fun w1 hw => join_spec so sw (j.map sameJ) ll w1 (by exact stb_own hw (by exact .tail _ (.head _))) (same_in (stb_arg hw hji)) (stb_arg hw hsw))) (fun s87 => ?_)
        refine sw_imp fun _ => ?_
        rw [b1, b2]
        refine sr rfl rfl rfl ((q_move rfl rfl)) (sr rfl rfl rfl ((q_extract rfl rfl rfl)) (sr rfl rfl rfl ((q_extract rfl rfl rfl)) (sr rfl rfl rfl ((q_assign rfl rfl)) (sr rfl rfl rfl ((q_assign rfl rfl)) (sw_nil (post_then (cw_seq (cw_region ?_))))))))
        refine sw_x rfl rfl rfl (e_build1 (α := ByteArray) rfl rfl rfl rfl) (fun s91 => ?_)
        refine sw_x rfl rfl rfl (e_build1 (α := ByteArray) rfl rfl rfl rfl) (fun s92 => ?_)
        refine sr rfl rfl rfl ((q_build rfl (.cons rfl inferInstance (.cons rfl inferInstance (.nil))) rfl)) ?_
        refine sw_x rfl rfl rfl (e_buildL (α := Jnt) (l := [neverJ s91 s92]) rfl (.cons rfl inferInstance (.nil)) rfl rfl rfl rfl) (fun s94 => ?_)
        refine sr rfl rfl rfl ((q_move rfl rfl)) ?_
        refine sw_x rfl rfl rfl (e_call (CanCall.mk Tryz.call46) rfl (.cons rfl inferInstance (.cons rfl inferInstance (.nil))) (fun w1 hw => join_spec s94 sw [neverJ s91 s92] ll w1 (stb_own hw (by exact .head _)) (never_in (stb_own (l := [noneB]) hw (by exact .tail _ (.tail _ (.head _)))) (stb_own (l := [neverB]) hw (by exact .tail _ (.head _)))) (stb_arg hw hsw))) (fun s96 => ?_)
        refine sw_imp fun _ => (sr rfl rfl rfl ((q_move rfl rfl)) (sr rfl rfl rfl ((q_extract rfl rfl rfl)) (sr rfl rfl rfl ((q_extract rfl rfl rfl)) (sr rfl rfl rfl ((q_assign rfl rfl)) (sr rfl rfl rfl ((q_assign rfl rfl)) (sw_nil (post_then (cw_seq (cw_region (sr rfl rfl rfl ((q_assign rfl rfl)) (sw_nil (post_then (cw_seq (cw_seq (cw_region (sr rfl rfl rfl ((q_assign rfl rfl)) (sw_nil (post_then (cw_block ?_)))))))))))))))))))
        obtain ⟨cE, hcE⟩ : ∃ x, joinE [neverJ s91 s92] ll = x := ⟨_, rfl⟩
        obtain ⟨cR, hcR⟩ : ∃ x, joinR [neverJ s91 s92] ll = x := ⟨_, rfl⟩
        rw [hcE, hcR]
        refine cw_loop (S := Nat × Bool) (fun y => [(1, [], sw.v), (8, [], s81.v), (9, [], .int .i64 0), (10, [], s87.v), (11, [], .int .i64 0), (12, [], s96.v), (13, [], .int .i64 cE), (14, [], .bool y.2), (15, [], .int .i64 y.1)]) (fun _ => Cl w [] [Sx.frz (RdRR s96.v cR), Sx.frz (RdRR s87.v ll), Sx.frz (RdRR s81.v ll)]) (fun y => y.1 ≤ ll.length ∧ (y.2 = false → ∀ i, i < y.1 → neverB ∉ nth ll i)) (fun y => ll.length - y.1) (0, false) ⟨by simp, fun _ i hi => by simp at hi⟩ (by exact .cons rfl (.cons rfl (.cons rfl (.cons rfl (.cons rfl (.cons rfl (.cons rfl (.cons rfl (.cons rfl .nil))))))))) (fun w h => Cl.sel (by exact .take 0 rfl (.take 3 rfl (.take 3 rfl (.nil _)))) w h) ?_
        rintro ⟨k, met⟩ ⟨hk, hmet⟩
        dsimp only at hk hmet ⊢
        refine cw_seq (cw_seq (cw_region (sr rfl rfl rfl ((q_move rfl rfl)) (sr rfl rfl rfl ((q_move rfl rfl)) ?_))))
        refine sr rfl rfl rfl ((q_len rfl (.cons rfl inferInstance (.nil)) (by exact fun w hw => Stb.cl (by assumption) hw))) ?_
        refine sr rfl rfl rfl ((q_lss rfl rfl rfl)) (sw_nil (post_then ?_))
        refine cw_cond rfl (fun h5 => ?_) (fun h5 => ?_)
        · skip
          have hk' : k < ll.length := by simp at h5; omega
          have hrow : Stb w [] (RdL (nth vs k).v (nth ll k)) := stb_row hR hk'
          have hrl := rd_len hrow.here
          refine cw_skip (post_then (cw_seq (cw_block (cw_seq (cw_region (sr rfl rfl rfl ((q_assign rfl rfl)) (sw_nil (post_then (cw_block ?_)))))))))
          refine cw_loop (S := Nat × Bool) (fun y => [(1, [], sw.v), (8, [], s81.v), (9, [], .int .i64 0), (10, [], s87.v), (11, [], .int .i64 0), (12, [], s96.v), (13, [], .int .i64 cE), (14, [], .bool y.2), (15, [], .int .i64 k), (16, [], .int .i64 y.1)]) (fun _ => Cl w [] [Sx.frz (RdRR s96.v cR), Sx.frz (RdRR s87.v ll), Sx.frz (RdRR s81.v ll)]) (fun y => y.1 ≤ (nth ll k).length ∧ (y.2 = false → (∀ i, i < k → neverB ∉ nth ll i) ∧ ∀ m, m < y.1 → nth (nth ll k) m ≠ neverB)) (fun y => (nth ll k).length - y.1) (0, met) ⟨by simp, fun h => ⟨hmet h, fun m hm => by simp at hm⟩⟩ (by exact .cons rfl (.cons rfl (.cons rfl (.cons rfl (.cons rfl (.cons rfl (.cons rfl (.cons rfl (.cons rfl (.cons rfl .nil)))))))))) (fun w h => Cl.sel (by exact .take 0 rfl (.take 0 rfl (.take 0 rfl (.nil _)))) w h) ?_
          rintro ⟨m, met2⟩ ⟨hm, hmet2⟩
          dsimp only at hm hmet2 ⊢
          refine cw_seq (cw_seq (cw_region (sr rfl rfl rfl ((q_move rfl rfl)) (sr rfl rfl rfl ((q_move rfl rfl)) (sr rfl rfl rfl ((q_move rfl rfl)) ?_)))))
          refine sr rfl rfl rfl ((q_indexN rfl rfl rfl (by exact fun w hw => Stb.cl (by assumption) hw) (by intro hc; omega))) ?_
          refine sr rfl rfl rfl ((q_loadEl rfl rfl rfl (by exact fun w hw => Stb.cl (by assumption) hw) (by intro hc; omega))) ?_
          refine sr rfl rfl rfl ((q_len rfl (.cons rfl inferInstance (.nil)) (by exact fun w hw => Stb.cl (by assumption) hw))) ?_
          refine sr rfl rfl rfl ((q_lss rfl rfl rfl)) (sw_nil (post_then ?_))
          refine cw_cond rfl (fun h6 => ?_) (fun h6 => ?_)
          · skip
            have hm' : m < (nth ll k).length := by simp at h6; omega
            refine cw_skip (post_then (cw_seq (cw_block (cw_region (sr rfl rfl rfl ((q_move rfl rfl)) (sr rfl rfl rfl ((q_move rfl rfl)) (sr rfl rfl rfl ((q_move rfl rfl)) (sr rfl rfl rfl ((q_move rfl rfl)) ?_))))))))
            refine sr rfl rfl rfl ((q_indexN rfl rfl rfl (by exact fun w hw => Stb.cl (by assumption) hw) (by intro hc; omega))) ?_
            refine sr rfl rfl rfl ((q_loadEl rfl rfl rfl (by exact fun w hw => Stb.cl (by assumption) hw) (by intro hc; omega))) ?_
            refine sr rfl rfl rfl ((q_move rfl rfl)) ?_
            refine sr rfl rfl rfl ((q_indexN rfl rfl rfl (by exact fun w hw => Stb.cl (by assumption) hw) (by intro hc; omega))) ?_
            refine sr rfl rfl rfl ((q_loadEl rfl rfl rfl (by exact fun w hw => Stb.cl (by assumption) hw) (by intro hc; omega))) ?_
            refine sr rfl rfl rfl ((q_eqlStr rfl rfl rfl Tryz.underlying9)) (sr rfl rfl rfl ((q_or2 rfl rfl rfl)) (sr rfl rfl rfl ((q_assign rfl rfl)) (sw_nil (post_blk (post_then (cw_region (sr rfl rfl rfl ((q_move rfl rfl)) ?_)))))))
            refine sr rfl rfl rfl ((q_add rfl rfl rfl (by intro hc; omega))) ?_
            refine sr rfl rfl rfl ((q_assign rfl rfl)) (sw_nil ?_)
            refine post_next (m + 1, met2 || decide (nth (nth ll k) m = neverB)) (by exact .cons rfl (.cons rfl (.cons rfl (.cons rfl (.cons rfl (.cons rfl (.cons rfl (.cons rfl (.cons rfl (.cons rfl .nil)))))))))) (fun w h => Cl.sel (by exact .take 0 rfl (.take 0 rfl (.take 0 rfl (.nil _)))) w h) ⟨by simp only; omega, fun h => ?_⟩ (by simp only; omega)
            simp only [Bool.or_eq_false_iff, decide_eq_false_iff_not] at h
            obtain ⟨q1, q2⟩ := hmet2 h.1
            refine ⟨q1, fun i hi => ?_⟩
            simp only at hi
            rcases Nat.lt_or_ge i m with h7 | h7
            · exact q2 i h7
            · have : i = m := by omega
              subst this; exact h.2
          · skip
            have hm' : m = (nth ll k).length := by simp at h6; omega
            refine cw_exit (post_then_x (post_then_x (post_blk_eq (post_blk (post_then (cw_region (sr rfl rfl rfl ((q_move rfl rfl)) ?_)))))))
            refine sr rfl rfl rfl ((q_add rfl rfl rfl (by intro hc; omega))) ?_
            refine sr rfl rfl rfl ((q_assign rfl rfl)) (sw_nil ?_)
            refine post_next (k + 1, met2) (by exact .cons rfl (.cons rfl (.cons rfl (.cons rfl (.cons rfl (.cons rfl (.cons rfl (.cons rfl (.cons rfl .nil))))))))) (fun w h => Cl.sel (by exact .take 0 rfl (.take 0 rfl (.take 0 rfl (.nil _)))) w h) ⟨by simp only; omega, fun h => ?_⟩ (by simp only; omega)
            obtain ⟨q1, q2⟩ := hmet2 h
            intro i hi
            simp only at hi
            rcases Nat.lt_or_ge i k with h7 | h7
            · exact q1 i h7
            · have : i = k := by omega
              subst this
              intro hmem
              obtain ⟨z, hz1, hz2⟩ := List.getElem_of_mem hmem
              exact q2 z (by omega) (by rw [nth_get hz1]; exact hz2)
        · skip
          have hk' : k = ll.length := by simp at h5; omega
          have hce : cE = 0 := by rw [← hcE]; exact never_zero s91 s92 (by omega) hp120
          have hcr : met = false → cR = ll := fun hm => by
            rw [← hcR]
            exact (join_still (j := [neverJ s91 s92]) (ll := ll) (by simp) (by simp [neverJ_ok]) (by omega) hp120 (fun i hi => never_step (hmet hm _ (by omega)))).2
          rw [hce]
          refine cw_exit (post_then_x (post_then_x (post_blk_eq (post_then (cw_seq (cw_region (sr rfl rfl rfl ((q_move rfl rfl)) (sr rfl rfl rfl ((q_eql rfl rfl rfl)) (sr rfl rfl rfl ((q_move rfl rfl)) (sr rfl rfl rfl ((q_move rfl rfl)) (sr rfl rfl rfl ((q_eql rfl rfl rfl)) (sr rfl rfl rfl ((q_and2 rfl rfl rfl)) (sr rfl rfl rfl ((q_move rfl rfl)) (sr rfl rfl rfl ((q_move rfl rfl)) (sr rfl rfl rfl ((q_eql rfl rfl rfl)) (sr rfl rfl rfl ((q_and2 rfl rfl rfl)) (sr rfl rfl rfl ((q_move rfl rfl)) (sr rfl rfl rfl ((q_move rfl rfl)) (sr rfl rfl rfl ((q_move rfl rfl)) ?_)))))))))))))))))))
          refine sw_step rfl rfl rfl (q_call (CanCall.mk Tryz.call25) rfl (.cons rfl inferInstance (.cons rfl inferInstance (.nil))) (fun _ w1 hw => callq hw (samePiecesRR_spec s81.v sw.v ll ll w1 (stb_frz hw (by exact .tail _ (.tail _ (.head _)))) (stb_arg hw hsw)))) ?_
          refine sr rfl rfl rfl ((q_and2 rfl rfl rfl)) (sr rfl rfl rfl ((q_move rfl rfl)) (sr rfl rfl rfl ((q_move rfl rfl)) (sr rfl rfl rfl ((q_move rfl rfl)) ?_)))
          refine sw_step rfl rfl rfl (q_call (CanCall.mk Tryz.call25) rfl (.cons rfl inferInstance (.cons rfl inferInstance (.nil))) (fun _ w1 hw => callq hw (samePiecesRR_spec s87.v sw.v ll ll w1 (stb_frz hw (by exact .tail _ (.head _))) (stb_arg hw hsw)))) ?_
          refine sr rfl rfl rfl ((q_and2 rfl rfl rfl)) (sr rfl rfl rfl ((q_move rfl rfl)) (sr rfl rfl rfl ((q_move rfl rfl)) (sr rfl rfl rfl ((q_move rfl rfl)) (sr rfl rfl rfl ((q_move rfl rfl)) (sr rfl rfl rfl ((q_move rfl rfl)) ?_)))))
          refine sw_step rfl rfl rfl (q_call (CanCall.mk Tryz.call25) rfl (.cons rfl inferInstance (.cons rfl inferInstance (.nil))) (fun _ w1 hw => callq hw (samePiecesRR_spec s96.v sw.v cR ll w1 (stb_frz hw (by exact .head _)) (stb_arg hw hsw)))) ?_
          refine sr rfl rfl rfl ((q_or2 rfl rfl rfl)) (sr rfl rfl rfl ((q_and2 rfl rfl rfl)) (sr rfl rfl rfl ((q_move rfl rfl)) ?_))
          refine sw_step rfl rfl rfl (q_call (CanCall.mk Tryz.call19) rfl (.nil) (fun _ w hw => callq hw (known_spec w (stb_arg hw (by assumption))))) ?_
          refine sr rfl rfl rfl ((q_and2 rfl rfl rfl)) (sr rfl rfl rfl ((q_assign rfl rfl)) (sw_nil (post_then (cw_ret (post_ret1 rfl (resOk_tmp rfl) ?_)))))
          refine fun w' hw => ⟨?_, (fun w h => Cl.sel (by exact .nil _) w h) _ hw⟩
          cases met with
          | true => simp
          | false => rw [hcr rfl]; simp
end Go.Proofs.YtkmbliojafefdaaGreatDoor

set_option autoImplicit false
namespace Go.Proofs.YtkmbliojafefdaaGreatDoor.letterApart
open Go.ChangeShapes Go.WideShapes Go.ChangeAt Go.RowKit Go.Sx
theorem own : ownKnob Tryz.prog.godebug = none := by kernel_rfl
theorem laid : laidOutB Tryz.prog = true := by kernel_rfl
theorem rowed : ∀ t ∈ Tryz.f9.params.toList, Tryz.prog.readableRec t = true ∧ t < Tryz.prog.types.size := by
  rw [Tryz.params9]
  intro t ht
  change t ∈ [78, 27] at ht
  simp only [List.mem_cons, List.not_mem_nil, or_false] at ht
  rcases ht with rfl | rfl <;> exact ⟨by kernel_rfl, of_decide_eq_true (by kernel_rfl)⟩
set_option maxHeartbeats 1000000 in
set_option maxRecDepth 100000 in
theorem lifted (os : Os) (started : os.Started) (H : Type) (enc : TypeId × Value → H) :
    ReturnsInHanded {} Tryz.checked os 9 .any (fun w args => (Rows.letterApartSpec.pre enc Tryz.prog Tryz.f9 Rows.letterApartRow.domain false w args ∧ laidMetH Tryz.prog Rows.letterApartRow.laid w) ∧ sizedMet enc Tryz.prog Tryz.f9 (OpenSpec.ofChange Rows.letterApartSpec) false w args)
      (Rows.letterApartSpec.post enc Tryz.prog Tryz.f9 false true false false) := by
  refine returnsInHanded_of_change_and (C := Tryz.checked) (X := fun w _ => laidMetH Tryz.prog Rows.letterApartRow.laid w) (fun _ _ _ hh h => h.of_heap hh) own started (by kernel_rfl) Tryz.func9
    (ChangeSpec.witness_shaped (enc := enc) (C := Tryz.checked) (os := os) (X := fun w _ => laidMetH Tryz.prog Rows.letterApartRow.laid w) false (World.laidAll Tryz.prog os Rows.letterApartRow.laid) #[.slice none 0 0, .slice none 0 0] 8 (World.laidAll_os _ _ _)
      (World.shaped_of_ZipB (by kernel_rfl) (by kernel_rfl)) (by kernel_rfl) (by kernel_rfl) (by kernel_rfl)
      (by rw [MakeChecks.laidMetH_plain _ _ _ (by kernel_rfl)]; exact laidMet_laidAll _ (by kernel_rfl) (by kernel_rfl))) ?_
  intro W base args ds gs before hval0 hW hcnd _ hL _
  have hval : ∀ (j : Nat) t v, Tryz.f9.params[j]? = some t → args[j]? = some v → Value.okWide Tryz.prog W .any base t v := hval0
  have hW' := hW
  have hlt := hW.lt
  obtain ⟨p, q, hA0, hV, rfl, hfz, hnd⟩ := hW
  have hA : DataW.TrodAll enc Tryz.prog W 0 (fun _ => true) true Tryz.f9.params.toList args.toList ds p := hA0
  have hkeep := fun (W' : World) (hb : Below W.heap.size W W') (sp : Nat → Bool) (hsp : ∀ x ∈ p, sp x.block = true) => trodAll_keep laid hb sp rowed hA (fun x hx => hlt x (by simp [hx])) hsp
  rw [Tryz.params9] at hA hval
  obtain ⟨v0, vs0, d0, ds0, p0, q0, hargs, rfl, rfl, h0, r0⟩ := trodAll_cons hA
  obtain ⟨v1, vs1, d1, ds1, p1, q1, rfl, rfl, rfl, h1, r1⟩ := trodAll_cons r0
  obtain ⟨rfl, rfl, rfl⟩ := trodAll_nil r1
  obtain rfl : args = #[v0, v1] := by cases args; simp_all
  obtain ⟨rfl, rfl⟩ := trodVars_none hV
  obtain ⟨a0, b0, rfl, k0⟩ := open_deep (hval 0 78 v0 rfl rfl) h0
  obtain ⟨a1, b1, rfl, k1⟩ := open_deep (hval 1 27 v1 rfl rfl) h1
  clear hA0 hval0
  rw [MakeChecks.laidMetH_plain _ _ _ (by kernel_rfl)] at hL
  have hT : Stb W [] Tab := tab_stb (utf8Tabs_of_readsT (U8Types.of196 Tryz.lays196) ⟨by kernel_rfl, by kernel_rfl, by kernel_rfl, by kernel_rfl, by kernel_rfl, by kernel_rfl, by kernel_rfl⟩ (Pinned.utf8First_eq ▸ Lib.laidMet.reads hL (.tail _ (.head _))) (Lib.laidMet.reads hL (.head _)))
  refine (apart_spec a0 a1 b0 b1 (rr_size k1.here) W hT (stb_flat (fun a b w h => h.1) k0) (jnt_all k0) (rr_stb k1)).mono fun e W' ⟨he, hc⟩ => ?_
  subst he
  have hb := below_of hc
  exact ⟨_, rfl, _, _, _, [], _, [], hW', trodAll_cons_mk (shut_bool Tryz.underlying4 _) trodAll_mk0, hkeep W' hb _ (fun x hx => by simpa using hlt x (by simpa using hx)), rfl, hb.frame _, fun h => by cases h⟩
end Go.Proofs.YtkmbliojafefdaaGreatDoor.letterApart

set_option autoImplicit false
namespace Go.Proofs.YtkmbliojafefdaaGreatDoor.letterApart
open Go.Sx
theorem named : Tryz.prog.funcNamed "declaim/declaimlaw03.LetterApart" = some 9 := by kernel_rfl
theorem inst : Tryz.f9.isInstance Tryz.prog Rows.letterApartRow.origin Rows.letterApartRow.targs := of_decide_eq_true (by kernel_rfl)
theorem wrap : Tryz.f9.isWrapper Tryz.prog Rows.letterApartRow.wrapper Rows.letterApartRow.mainSum := by unfold Func.isWrapper; first | (rw [if_pos (by decide +kernel)]; kernel_rfl) | (rw [if_neg (by decide +kernel)]; exact ⟨rfl, rfl⟩)
theorem over : Rows.letterApartRow.holds Tryz.pinned (OpenSpec.ofChange Rows.letterApartSpec) :=
  OpenClaim.holds_of_wide 9 Tryz.f9 rfl rfl rfl rfl rfl rfl rfl ⟨rfl, rfl, rfl, rfl, rfl⟩ rfl rfl rfl rfl rfl named Tryz.func9 closed inst wrap
    (fun os started H enc _ => lifted os started H enc)
end Go.Proofs.YtkmbliojafefdaaGreatDoor.letterApart
