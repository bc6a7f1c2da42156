import Derived.Test.YtkmbliojafefdaaGreatDoorWAccents5
import Derived.Lib.LaidU8T
import Derived.PinnedBridge
import Derived.Test.YtkmbliojafefdaaGreatDoorRows
import Derived.LaidMore
import Derived.Lay
import Derived.Stop.Joined
import Derived.Test.YtkmbliojafefdaaGreatDoorCards
import Derived.KernelRfl

set_option autoImplicit false
set_option linter.unusedSimpArgs false
set_option linter.unusedVariables false
set_option maxRecDepth 100000
namespace Go.Proofs.YtkmbliojafefdaaGreatDoor
open Go.Sx
open Enc (enc val)
theorem rdrr_two {H : List Asn} {w0 w : World} {fp : List Nat} {s a b : SlV} {l m : List ByteArray} {e e' : TypeId} (h : Cl w0 fp H w) (hs : ownL e s.v [a, b] ∈ H) (ha : ownL e' a.v l ∈ H) (hb : ownL e' b.v m ∈ H) : Stb w [] (RdRR s.v [l, m]) :=
  ⟨fun w' k => ⟨[a, b], (stb_own h hs).stb w' k, rfl, fun i hi => by
    match i, hi with
    | 0, _ => exact (stb_own h ha).stb w' k
    | 1, _ => exact (stb_own h hb).stb w' k⟩⟩
theorem ex_size (s1 s2 s3 : SlV) : ∀ u ∈ exL s1 s2 s3, u.word.size ≤ 1000000 := fun u hu => by
  simp only [exL, List.mem_cons, List.not_mem_nil, or_false] at hu
  rcases hu with rfl | rfl | rfl <;> exact Nat.le_of_ble_eq_true rfl
theorem jnt_one {H : List Asn} {w0 w : World} {fp : List Nat} {s t v : SlV} {a b c : List ByteArray} {e : TypeId} (h : Cl w0 fp H w) (hs : ownL e s.v a ∈ H) (ht : ownL e t.v b ∈ H) (hv : ownL e v.v c ∈ H) : Stb w [] fun w' => ∀ u ∈ [(⟨⟨none, 0, 0⟩, s, t, v, [], a, b, c⟩ : Jnt)], JntIn u w' :=
  ⟨fun w' k u hu => by
    simp only [List.mem_cons, List.not_mem_nil, or_false] at hu
    subst hu
    exact ⟨rd_nil0 w', (stb_own h hs).stb w' k, (stb_own h ht).stb w' k, (stb_own h hv).stb w' k⟩⟩
theorem fgn_one {H : List Asn} {w0 w : World} {fp : List Nat} {ph : ByteArray} {s a b : SlV} {l m : List ByteArray} {e e' : TypeId} (h : Cl w0 fp H w) (hs : ownL e s.v [a, b] ∈ H) (ha : ownL e' a.v l ∈ H) (hb : ownL e' b.v m ∈ H) : Stb w [] fun w' => ∀ u ∈ [(⟨ph, s, [l, m]⟩ : Fgn)], FgnIn u w' :=
  ⟨fun w' k u hu => by
    simp only [List.mem_cons, List.not_mem_nil, or_false] at hu
    subst hu
    exact (rdrr_two h hs ha hb).stb w' k⟩
theorem rdr_two {H : List Asn} {w0 w : World} {fp : List Nat} {a b : SlV} {l m : List ByteArray} {e' : TypeId} (h : Cl w0 fp H w) (ha : ownL e' a.v l ∈ H) (hb : ownL e' b.v m ∈ H) : Stb w [] (RdR [a, b] [l, m]) :=
  ⟨fun w' k => ⟨rfl, fun i hi => by
    match i, hi with
    | 0, _ => exact (stb_own h ha).stb w' k
    | 1, _ => exact (stb_own h hb).stb w' k⟩⟩
theorem rdr_three {H : List Asn} {w0 w : World} {fp : List Nat} {a b : SlV} {l m : List ByteArray} {e' : TypeId} (h : Cl w0 fp H w) (ha : ownL e' a.v l ∈ H) (hb : ownL e' b.v m ∈ H) : Stb w [] (RdR [a, b, ⟨none, 0, 0⟩] [l, m, []]) :=
  ⟨fun w' k => ⟨rfl, fun i hi => by
    match i, hi with
    | 0, _ => exact (stb_own h ha).stb w' k
    | 1, _ => exact (stb_own h hb).stb w' k
    | 2, _ => exact rd_nil0 w'⟩⟩
theorem ord_self : ∀ l : List ByteArray, ordL l l = 0
  | [] => rfl
  | x :: l => by simp [ordL, ord_self l]
theorem known_spec (w : World) (hT : Stb w [] Tab) : Calls Tryz.prog 19 #[] w fun e w' => e = .returned (.bool true) ∧ Cl w [] [] w' := by
  refine calls_cw (vs := []) Tryz.func19 rfl Tryz.ntmps19 rfl (Cl.start0 w) (cw_seq (cw_region (sr rfl rfl rfl ((q_assign rfl rfl)) (sw_nil (post_then (cw_seq (cw_region ?_)))))))
  refine sw_x rfl rfl rfl (e_call (CanCall.mk Tryz.call59) rfl (.nil) (fun w1 hw => example_spec w1)) (fun y15 => ?_)
  refine sw_imp fun _ => (sr rfl rfl rfl ((q_move rfl rfl)) ?_)
  first | refine sr rfl rfl rfl ((q_extract rfl rfl rfl)) ?_ | refine sr rfl rfl rfl ((q_extract rfl rfl (nextV_0 _))) ?_ | refine sr rfl rfl rfl ((q_extract rfl rfl (nextSV_0 _ _))) ?_ | refine sr rfl rfl rfl ((q_extract rfl rfl (nextSV_1 (by assumption)))) ?_ | refine sr rfl rfl rfl ((q_extract rfl rfl (nextSV_2 (by assumption)))) ?_
  first | refine sr rfl rfl rfl ((q_extract rfl rfl rfl)) ?_ | refine sr rfl rfl rfl ((q_extract rfl rfl (nextV_0 _))) ?_ | refine sr rfl rfl rfl ((q_extract rfl rfl (nextSV_0 _ _))) ?_ | refine sr rfl rfl rfl ((q_extract rfl rfl (nextSV_1 (by assumption)))) ?_ | refine sr rfl rfl rfl ((q_extract rfl rfl (nextSV_2 (by assumption)))) ?_
  refine sr rfl rfl rfl ((q_assign rfl rfl)) (sr rfl rfl rfl ((q_assign rfl rfl)) (sw_nil (post_then (cw_seq (cw_region (sr rfl rfl rfl ((q_move rfl rfl)) ?_))))))
  refine sw_x rfl rfl rfl (e_buildL (α := ByteArray) (l := [⟨#[101, 105]⟩, ⟨#[116]⟩]) rfl (.cons rfl inferInstance (.cons rfl inferInstance (.nil))) rfl rfl rfl rfl) (fun s20 => ?_)
  refine sw_x rfl rfl rfl (e_call (CanCall.mk Tryz.call20) rfl (.cons rfl inferInstance (.cons rfl inferInstance (.cons rfl inferInstance (.nil)))) (fun w1 hw => align_spec y15.b s20 (exP y15.t1 y15.t2 y15.t3 y15.t4 y15.t5 y15.t6) ⟨#[97, 116, 101]⟩ [⟨#[101, 105]⟩, ⟨#[116]⟩] (by decide) w1 (stb_arg hw hT) ((stb_frz (R := ExR y15.a y15.b y15.s1 y15.s2 y15.s3 y15.t1 y15.t2 y15.t3 y15.t4 y15.t5 y15.t6) hw (by first | assumption | (repeat first | exact .head _ | apply List.Mem.tail))).mono fun _ h => h.2.1) ((stb_frz (R := ExR y15.a y15.b y15.s1 y15.s2 y15.s3 y15.t1 y15.t2 y15.t3 y15.t4 y15.t5 y15.t6) hw (by first | assumption | (repeat first | exact .head _ | apply List.Mem.tail))).mono fun _ h => h.2.2) (stb_own hw (by first | assumption | (repeat first | exact .head _ | apply List.Mem.tail))))) (fun x21 => ?_)
  refine sw_imp fun _ => ?_
  rw [ex_alignN, ex_alignE, ex_alignP]
  refine sr rfl rfl rfl ((q_move rfl rfl)) ?_
  first | refine sr rfl rfl rfl ((q_extract rfl rfl rfl)) ?_ | refine sr rfl rfl rfl ((q_extract rfl rfl (nextV_0 _))) ?_ | refine sr rfl rfl rfl ((q_extract rfl rfl (nextSV_0 _ _))) ?_ | refine sr rfl rfl rfl ((q_extract rfl rfl (nextSV_1 (by assumption)))) ?_ | refine sr rfl rfl rfl ((q_extract rfl rfl (nextSV_2 (by assumption)))) ?_
  first | refine sr rfl rfl rfl ((q_extract rfl rfl rfl)) ?_ | refine sr rfl rfl rfl ((q_extract rfl rfl (nextV_0 _))) ?_ | refine sr rfl rfl rfl ((q_extract rfl rfl (nextSV_0 _ _))) ?_ | refine sr rfl rfl rfl ((q_extract rfl rfl (nextSV_1 (by assumption)))) ?_ | refine sr rfl rfl rfl ((q_extract rfl rfl (nextSV_2 (by assumption)))) ?_
  first | refine sr rfl rfl rfl ((q_extract rfl rfl rfl)) ?_ | refine sr rfl rfl rfl ((q_extract rfl rfl (nextV_0 _))) ?_ | refine sr rfl rfl rfl ((q_extract rfl rfl (nextSV_0 _ _))) ?_ | refine sr rfl rfl rfl ((q_extract rfl rfl (nextSV_1 (by assumption)))) ?_ | refine sr rfl rfl rfl ((q_extract rfl rfl (nextSV_2 (by assumption)))) ?_
  refine sr rfl rfl rfl ((q_assign rfl rfl)) (sr rfl rfl rfl ((q_assign rfl rfl)) (sr rfl rfl rfl ((q_assign rfl rfl)) (sw_nil (post_then (cw_seq (cw_region (sr rfl rfl rfl ((q_move rfl rfl)) (sr rfl rfl rfl ((q_move rfl rfl)) (sr rfl rfl rfl ((q_build rfl (.cons rfl inferInstance (.cons rfl inferInstance (.cons rfl inferInstance (.nil)))) rfl)) ?_)))))))))
  refine sw_x rfl rfl rfl (e_call (CanCall.mk Tryz.call29) rfl (.cons rfl inferInstance (.cons rfl inferInstance (.cons rfl inferInstance (.nil)))) (fun w1 hw => learn_spec y15.a y15.b (exL y15.s1 y15.s2 y15.s3) (exP y15.t1 y15.t2 y15.t3 y15.t4 y15.t5 y15.t6) ⟨2, 1, 10⟩ (ex_size _ _ _) (fun _ => by rw [ex_abc]; decide) w1 (stb_arg hw hT) ((stb_frz (R := ExR y15.a y15.b y15.s1 y15.s2 y15.s3 y15.t1 y15.t2 y15.t3 y15.t4 y15.t5 y15.t6) hw (by first | assumption | (repeat first | exact .head _ | apply List.Mem.tail))).mono fun _ h => h.1.1) ((stb_frz (R := ExR y15.a y15.b y15.s1 y15.s2 y15.s3 y15.t1 y15.t2 y15.t3 y15.t4 y15.t5 y15.t6) hw (by first | assumption | (repeat first | exact .head _ | apply List.Mem.tail))).mono fun _ h => h.1.2) ((stb_frz (R := ExR y15.a y15.b y15.s1 y15.s2 y15.s3 y15.t1 y15.t2 y15.t3 y15.t4 y15.t5 y15.t6) hw (by first | assumption | (repeat first | exact .head _ | apply List.Mem.tail))).mono fun _ h => h.2.1) ((stb_frz (R := ExR y15.a y15.b y15.s1 y15.s2 y15.s3 y15.t1 y15.t2 y15.t3 y15.t4 y15.t5 y15.t6) hw (by first | assumption | (repeat first | exact .head _ | apply List.Mem.tail))).mono fun _ h => h.2.2))) (fun b29 => ?_)
  refine sw_imp fun hb => ?_
  rw [ex_optE]
  rw [ex_learn] at hb
  obtain ⟨bsl, bl⟩ := b29
  obtain ⟨bk, hbk⟩ := ex_shape hb
  simp only at hbk
  subst hbk
  refine sr rfl rfl rfl ((q_move rfl rfl)) ?_
  first | refine sr rfl rfl rfl ((q_extract rfl rfl rfl)) ?_ | refine sr rfl rfl rfl ((q_extract rfl rfl (nextV_0 _))) ?_ | refine sr rfl rfl rfl ((q_extract rfl rfl (nextSV_0 _ _))) ?_ | refine sr rfl rfl rfl ((q_extract rfl rfl (nextSV_1 (by assumption)))) ?_ | refine sr rfl rfl rfl ((q_extract rfl rfl (nextSV_2 (by assumption)))) ?_
  first | refine sr rfl rfl rfl ((q_extract rfl rfl rfl)) ?_ | refine sr rfl rfl rfl ((q_extract rfl rfl (nextV_0 _))) ?_ | refine sr rfl rfl rfl ((q_extract rfl rfl (nextSV_0 _ _))) ?_ | refine sr rfl rfl rfl ((q_extract rfl rfl (nextSV_1 (by assumption)))) ?_ | refine sr rfl rfl rfl ((q_extract rfl rfl (nextSV_2 (by assumption)))) ?_
  refine sw_x rfl rfl rfl (e_alloc rfl) (fun b6 => ?_)
  first | refine sw_eff0 rfl rfl (e_store (i := 0) rfl rfl rfl rfl rfl rfl rfl rfl) ?_ | refine sw_eff0 rfl rfl (e_store (i := 1) rfl rfl rfl rfl rfl rfl rfl rfl) ?_ | refine sw_eff0 rfl rfl (e_store (i := 2) rfl rfl rfl rfl rfl rfl rfl rfl) ?_ | refine sw_eff0 rfl rfl (e_store (i := 3) rfl rfl rfl rfl rfl rfl rfl rfl) ?_ | refine sw_eff0 rfl rfl (e_store (i := 4) rfl rfl rfl rfl rfl rfl rfl rfl) ?_ | refine sw_eff0 rfl rfl (e_store (i := 5) rfl rfl rfl rfl rfl rfl rfl rfl) ?_ | refine sw_eff0 rfl rfl (e_store (i := 6) rfl rfl rfl rfl rfl rfl rfl rfl) ?_ | refine sw_eff0 rfl rfl (e_store (i := 7) rfl rfl rfl rfl rfl rfl rfl rfl) ?_ | refine sw_eff0 rfl rfl (e_store (i := 8) rfl rfl rfl rfl rfl rfl rfl rfl) ?_ | refine sw_eff0 rfl rfl (e_store (i := 9) rfl rfl rfl rfl rfl rfl rfl rfl) ?_ | refine sw_eff0 rfl rfl (e_store (i := 10) rfl rfl rfl rfl rfl rfl rfl rfl) ?_ | refine sw_eff0 rfl rfl (e_store (i := 11) rfl rfl rfl rfl rfl rfl rfl rfl) ?_ | refine sw_eff0 rfl rfl (e_store (i := 12) rfl rfl rfl rfl rfl rfl rfl rfl) ?_ | refine sw_eff0 rfl rfl (e_store (i := 13) rfl rfl rfl rfl rfl rfl rfl rfl) ?_ | refine sw_eff0 rfl rfl (e_store (i := 14) rfl rfl rfl rfl rfl rfl rfl rfl) ?_ | refine sw_eff0 rfl rfl (e_store (i := 15) rfl rfl rfl rfl rfl rfl rfl rfl) ?_ | refine sw_eff0 rfl rfl (e_storeEl1 (i := 0) rfl rfl rfl rfl rfl (by first | omega | (simp only [List.length_set, List.length_append, List.length_cons, List.length_nil, List.length_replicate, List.length_take, List.length_drop, List.length_map]; omega))) ?_ | refine sw_eff0 rfl rfl (e_storeEl1 (i := 1) rfl rfl rfl rfl rfl (by first | omega | (simp only [List.length_set, List.length_append, List.length_cons, List.length_nil, List.length_replicate, List.length_take, List.length_drop, List.length_map]; omega))) ?_ | refine sw_eff0 rfl rfl (e_storeEl1 (i := 2) rfl rfl rfl rfl rfl (by first | omega | (simp only [List.length_set, List.length_append, List.length_cons, List.length_nil, List.length_replicate, List.length_take, List.length_drop, List.length_map]; omega))) ?_ | refine sw_eff0 rfl rfl (e_storeEl1 (i := 3) rfl rfl rfl rfl rfl (by first | omega | (simp only [List.length_set, List.length_append, List.length_cons, List.length_nil, List.length_replicate, List.length_take, List.length_drop, List.length_map]; omega))) ?_ | refine sw_eff0 rfl rfl (e_storeEl1 (i := 4) rfl rfl rfl rfl rfl (by first | omega | (simp only [List.length_set, List.length_append, List.length_cons, List.length_nil, List.length_replicate, List.length_take, List.length_drop, List.length_map]; omega))) ?_ | refine sw_eff0 rfl rfl (e_storeEl1 (i := 5) rfl rfl rfl rfl rfl (by first | omega | (simp only [List.length_set, List.length_append, List.length_cons, List.length_nil, List.length_replicate, List.length_take, List.length_drop, List.length_map]; omega))) ?_ | refine sw_eff0 rfl rfl (e_storeEl1 (i := 6) rfl rfl rfl rfl rfl (by first | omega | (simp only [List.length_set, List.length_append, List.length_cons, List.length_nil, List.length_replicate, List.length_take, List.length_drop, List.length_map]; omega))) ?_ | refine sw_eff0 rfl rfl (e_storeEl1 (i := 7) rfl rfl rfl rfl rfl (by first | omega | (simp only [List.length_set, List.length_append, List.length_cons, List.length_nil, List.length_replicate, List.length_take, List.length_drop, List.length_map]; omega))) ?_ | refine sw_eff0 rfl rfl (e_storeEl1 (i := 8) rfl rfl rfl rfl rfl (by first | omega | (simp only [List.length_set, List.length_append, List.length_cons, List.length_nil, List.length_replicate, List.length_take, List.length_drop, List.length_map]; omega))) ?_ | refine sw_eff0 rfl rfl (e_storeEl1 (i := 9) rfl rfl rfl rfl rfl (by first | omega | (simp only [List.length_set, List.length_append, List.length_cons, List.length_nil, List.length_replicate, List.length_take, List.length_drop, List.length_map]; omega))) ?_ | refine sw_eff0 rfl rfl (e_storeEl1 (i := 10) rfl rfl rfl rfl rfl (by first | omega | (simp only [List.length_set, List.length_append, List.length_cons, List.length_nil, List.length_replicate, List.length_take, List.length_drop, List.length_map]; omega))) ?_ | refine sw_eff0 rfl rfl (e_storeEl1 (i := 11) rfl rfl rfl rfl rfl (by first | omega | (simp only [List.length_set, List.length_append, List.length_cons, List.length_nil, List.length_replicate, List.length_take, List.length_drop, List.length_map]; omega))) ?_ | refine sw_eff0 rfl rfl (e_storeEl1 (i := 12) rfl rfl rfl rfl rfl (by first | omega | (simp only [List.length_set, List.length_append, List.length_cons, List.length_nil, List.length_replicate, List.length_take, List.length_drop, List.length_map]; omega))) ?_ | refine sw_eff0 rfl rfl (e_storeEl1 (i := 13) rfl rfl rfl rfl rfl (by first | omega | (simp only [List.length_set, List.length_append, List.length_cons, List.length_nil, List.length_replicate, List.length_take, List.length_drop, List.length_map]; omega))) ?_ | refine sw_eff0 rfl rfl (e_storeEl1 (i := 14) rfl rfl rfl rfl rfl (by first | omega | (simp only [List.length_set, List.length_append, List.length_cons, List.length_nil, List.length_replicate, List.length_take, List.length_drop, List.length_map]; omega))) ?_ | refine sw_eff0 rfl rfl (e_storeEl1 (i := 15) rfl rfl rfl rfl rfl (by first | omega | (simp only [List.length_set, List.length_append, List.length_cons, List.length_nil, List.length_replicate, List.length_take, List.length_drop, List.length_map]; omega))) ?_
  refine sr rfl rfl rfl ((q_assign rfl rfl)) (sw_nil (post_then (cw_seq (cw_region ?_))))
  first | refine sr rfl rfl rfl ((q_loadC rfl rfl (by first | assumption | (repeat first | exact .head _ | apply List.Mem.tail)) rfl)) ?_ | refine sr rfl rfl rfl ((q_loadA rfl rfl (by first | assumption | (repeat first | exact .head _ | apply List.Mem.tail)) rfl)) ?_ | refine sr rfl rfl rfl ((q_loadEl rfl rfl rfl (by first | exact fun w hw => Stb.cl (by assumption) hw | exact fun w hw => rd_own hw (by first | assumption | (repeat first | exact .head _ | apply List.Mem.tail)) | assumption) (by intro hc; first | omega | (simp only [List.length_set, List.length_append, List.length_cons, List.length_nil, List.length_replicate, List.length_take, List.length_drop, List.length_map]; omega) | (simp only [AllT.iff, List.all_cons, List.all_nil, id, Bool.and_eq_true, Bool.not_eq_true', decide_eq_true_eq, decide_eq_false_iff_not, and_true] at hc; first | omega | (simp only [List.length_set, List.length_append, List.length_cons, List.length_nil, List.length_replicate, List.length_take, List.length_drop, List.length_map]; omega)) | (exfalso; simp_all [AllT]; done)))) ?_ | refine sr rfl rfl rfl ((q_loadF rfl rfl rfl (by first | exact fun w hw => Stb.cl (by assumption) hw | exact fun w hw => rd_own hw (by first | assumption | (repeat first | exact .head _ | apply List.Mem.tail)) | assumption) (by intro hc; first | omega | (simp only [List.length_set, List.length_append, List.length_cons, List.length_nil, List.length_replicate, List.length_take, List.length_drop, List.length_map]; omega) | (simp only [AllT.iff, List.all_cons, List.all_nil, id, Bool.and_eq_true, Bool.not_eq_true', decide_eq_true_eq, decide_eq_false_iff_not, and_true] at hc; first | omega | (simp only [List.length_set, List.length_append, List.length_cons, List.length_nil, List.length_replicate, List.length_take, List.length_drop, List.length_map]; omega)) | (exfalso; simp_all [AllT]; done)) rfl)) ?_ | refine sr rfl rfl rfl ((q_loadS rfl rfl (fun w hw => Stb.cl (by assumption) hw) rfl)) ?_
  refine sw_x rfl rfl rfl (e_call (CanCall.mk Tryz.call37) rfl (.cons rfl inferInstance (.cons rfl inferInstance (.nil))) (fun w1 hw => say_spec ⟨bsl, exBl bk⟩ ⟨#[99, 97, 116]⟩ (by decide) w1 (stb_arg hw hT) (stb_frz (R := BkIn ⟨bsl, exBl bk⟩) hw (by first | assumption | (repeat first | exact .head _ | apply List.Mem.tail))))) (fun s33 => ?_)
  refine sw_imp fun _ => ?_
  dsimp only
  rw [ex_sayE]
  obtain ⟨sq3, hsr⟩ : ∃ sq3, sayR (exBl bk) ⟨#[99, 97, 116]⟩ = sq3 := ⟨_, rfl⟩
  have hsr1 : sq3.map (·.phone) = [⟨#[107]⟩, ⟨#[97]⟩, ⟨#[116]⟩] := by rw [← hsr]; exact ex_sayR bk
  have hsr2 : sq3.length = 3 := by rw [← hsr]; exact ex_sayL bk
  rw [hsr]
  refine sr rfl rfl rfl ((q_move rfl rfl)) ?_
  first | refine sr rfl rfl rfl ((q_extract rfl rfl rfl)) ?_ | refine sr rfl rfl rfl ((q_extract rfl rfl (nextV_0 _))) ?_ | refine sr rfl rfl rfl ((q_extract rfl rfl (nextSV_0 _ _))) ?_ | refine sr rfl rfl rfl ((q_extract rfl rfl (nextSV_1 (by assumption)))) ?_ | refine sr rfl rfl rfl ((q_extract rfl rfl (nextSV_2 (by assumption)))) ?_
  first | refine sr rfl rfl rfl ((q_extract rfl rfl rfl)) ?_ | refine sr rfl rfl rfl ((q_extract rfl rfl (nextV_0 _))) ?_ | refine sr rfl rfl rfl ((q_extract rfl rfl (nextSV_0 _ _))) ?_ | refine sr rfl rfl rfl ((q_extract rfl rfl (nextSV_1 (by assumption)))) ?_ | refine sr rfl rfl rfl ((q_extract rfl rfl (nextSV_2 (by assumption)))) ?_
  refine sr rfl rfl rfl ((q_assign rfl rfl)) (sr rfl rfl rfl ((q_assign rfl rfl)) (sw_nil (post_then (cw_seq (cw_region ?_)))))
  refine sw_x rfl rfl rfl (e_build1 (α := ByteArray) rfl rfl rfl rfl) (fun s38 => ?_)
  refine sw_x rfl rfl rfl (e_build1 (α := ByteArray) rfl rfl rfl rfl) (fun s39 => ?_)
  refine sw_x rfl rfl rfl (e_build1 (α := ByteArray) rfl rfl rfl rfl) (fun s40 => ?_)
  refine sr rfl rfl rfl ((q_build rfl (.cons rfl inferInstance (.cons rfl inferInstance (.cons rfl inferInstance (.nil)))) rfl)) ?_
  refine sw_x rfl rfl rfl (e_buildL (α := Jnt) (l := [⟨⟨none, 0, 0⟩, s38, s39, s40, [], [⟨#[97]⟩], [⟨#[122]⟩], [⟨#[97]⟩]⟩]) rfl (.cons rfl inferInstance (.nil)) rfl rfl rfl rfl) (fun s42 => ?_)
  refine sw_x rfl rfl rfl (e_buildL (α := ByteArray) (l := [⟨#[108]⟩, ⟨#[101]⟩]) rfl (.cons rfl inferInstance (.cons rfl inferInstance (.nil))) rfl rfl rfl rfl) (fun s43 => ?_)
  refine sw_x rfl rfl rfl (e_buildL (α := ByteArray) (l := [⟨#[97]⟩, ⟨#[109]⟩, ⟨#[105]⟩]) rfl (.cons rfl inferInstance (.cons rfl inferInstance (.cons rfl inferInstance (.nil)))) rfl rfl rfl rfl) (fun s44 => ?_)
  refine sw_x rfl rfl rfl (e_buildL (α := SlV) (l := [s43, s44]) rfl (.cons rfl inferInstance (.cons rfl inferInstance (.nil))) rfl rfl rfl rfl) (fun s45 => ?_)
  refine sw_x rfl rfl rfl (e_call (CanCall.mk Tryz.call46) rfl (.cons rfl inferInstance (.cons rfl inferInstance (.nil))) (fun w1 hw => join_spec s42 s45 [⟨⟨none, 0, 0⟩, s38, s39, s40, [], [⟨#[97]⟩], [⟨#[122]⟩], [⟨#[97]⟩]⟩] [[⟨#[108]⟩, ⟨#[101]⟩], [⟨#[97]⟩, ⟨#[109]⟩, ⟨#[105]⟩]] w1 (stb_own hw (by first | assumption | (repeat first | exact .head _ | apply List.Mem.tail))) (jnt_one hw (by first | assumption | (repeat first | exact .head _ | apply List.Mem.tail)) (by first | assumption | (repeat first | exact .head _ | apply List.Mem.tail)) (by first | assumption | (repeat first | exact .head _ | apply List.Mem.tail))) (rdrr_two hw (by first | assumption | (repeat first | exact .head _ | apply List.Mem.tail)) (by first | assumption | (repeat first | exact .head _ | apply List.Mem.tail)) (by first | assumption | (repeat first | exact .head _ | apply List.Mem.tail))))) (fun x46 => ?_)
  refine sw_imp fun _ => ?_
  rw [ex_joinE, ex_joinR]
  refine sr rfl rfl rfl ((q_move rfl rfl)) ?_
  first | refine sr rfl rfl rfl ((q_extract rfl rfl rfl)) ?_ | refine sr rfl rfl rfl ((q_extract rfl rfl (nextV_0 _))) ?_ | refine sr rfl rfl rfl ((q_extract rfl rfl (nextSV_0 _ _))) ?_ | refine sr rfl rfl rfl ((q_extract rfl rfl (nextSV_1 (by assumption)))) ?_ | refine sr rfl rfl rfl ((q_extract rfl rfl (nextSV_2 (by assumption)))) ?_
  first | refine sr rfl rfl rfl ((q_extract rfl rfl rfl)) ?_ | refine sr rfl rfl rfl ((q_extract rfl rfl (nextV_0 _))) ?_ | refine sr rfl rfl rfl ((q_extract rfl rfl (nextSV_0 _ _))) ?_ | refine sr rfl rfl rfl ((q_extract rfl rfl (nextSV_1 (by assumption)))) ?_ | refine sr rfl rfl rfl ((q_extract rfl rfl (nextSV_2 (by assumption)))) ?_
  refine sr rfl rfl rfl ((q_assign rfl rfl)) (sr rfl rfl rfl ((q_assign rfl rfl)) (sw_nil (post_then (cw_seq (cw_region ?_)))))
  refine sw_x rfl rfl rfl (e_build1 (α := ByteArray) rfl rfl rfl rfl) (fun s50 => ?_)
  refine sw_x rfl rfl rfl (e_buildL (α := ByteArray) (l := [⟨#[82]⟩, ⟨#[120]⟩]) rfl (.cons rfl inferInstance (.cons rfl inferInstance (.nil))) rfl rfl rfl rfl) (fun s51 => ?_)
  refine sw_x rfl rfl rfl (e_buildL (α := SlV) (l := [s50, s51]) rfl (.cons rfl inferInstance (.cons rfl inferInstance (.nil))) rfl rfl rfl rfl) (fun s52 => ?_)
  refine sr rfl rfl rfl ((q_build rfl (.cons rfl inferInstance (.cons rfl inferInstance (.nil))) rfl)) ?_
  refine sw_x rfl rfl rfl (e_buildL (α := Fgn) (l := [⟨⟨#[114]⟩, s52, [[⟨#[82]⟩], [⟨#[82]⟩, ⟨#[120]⟩]]⟩]) rfl (.cons rfl inferInstance (.nil)) rfl rfl rfl rfl) (fun s54 => ?_)
  refine sw_x rfl rfl rfl (e_buildL (α := ByteArray) (l := [⟨#[114]⟩, ⟨#[97]⟩, ⟨#[114]⟩]) rfl (.cons rfl inferInstance (.cons rfl inferInstance (.cons rfl inferInstance (.nil)))) rfl rfl rfl rfl) (fun s55 => ?_)
  refine sw_x rfl rfl rfl (e_call (CanCall.mk Tryz.call47) rfl (.cons rfl inferInstance (.cons rfl inferInstance (.cons rfl inferInstance (.nil)))) (fun w1 hw => accent_spec s54 s55 [⟨⟨#[114]⟩, s52, [[⟨#[82]⟩], [⟨#[82]⟩, ⟨#[120]⟩]]⟩] [⟨#[114]⟩, ⟨#[97]⟩, ⟨#[114]⟩] 5 w1 (stb_own hw (by first | assumption | (repeat first | exact .head _ | apply List.Mem.tail))) (fgn_one hw (by first | assumption | (repeat first | exact .head _ | apply List.Mem.tail)) (by first | assumption | (repeat first | exact .head _ | apply List.Mem.tail)) (by first | assumption | (repeat first | exact .head _ | apply List.Mem.tail))) (stb_own hw (by first | assumption | (repeat first | exact .head _ | apply List.Mem.tail))))) (fun s56 => ?_)
  refine sw_imp fun _ => ?_
  rw [ex_accE, ex_accR]
  refine sr rfl rfl rfl ((q_move rfl rfl)) ?_
  first | refine sr rfl rfl rfl ((q_extract rfl rfl rfl)) ?_ | refine sr rfl rfl rfl ((q_extract rfl rfl (nextV_0 _))) ?_ | refine sr rfl rfl rfl ((q_extract rfl rfl (nextSV_0 _ _))) ?_ | refine sr rfl rfl rfl ((q_extract rfl rfl (nextSV_1 (by assumption)))) ?_ | refine sr rfl rfl rfl ((q_extract rfl rfl (nextSV_2 (by assumption)))) ?_
  first | refine sr rfl rfl rfl ((q_extract rfl rfl rfl)) ?_ | refine sr rfl rfl rfl ((q_extract rfl rfl (nextV_0 _))) ?_ | refine sr rfl rfl rfl ((q_extract rfl rfl (nextSV_0 _ _))) ?_ | refine sr rfl rfl rfl ((q_extract rfl rfl (nextSV_1 (by assumption)))) ?_ | refine sr rfl rfl rfl ((q_extract rfl rfl (nextSV_2 (by assumption)))) ?_
  refine sr rfl rfl rfl ((q_assign rfl rfl)) (sr rfl rfl rfl ((q_assign rfl rfl)) (sw_nil (post_then (cw_seq (cw_seq (cw_region (sw_reb0 (w0 := w) (fp := []) (F := [blk b6 [bsl.v] 45, Sx.frz (BkIn ⟨bsl, exBl bk⟩), Sx.frz (RdRR x21.v ([[⟨#[101, 105]⟩], [⟨#[116]⟩], []] : List (List ByteArray))), ownL 136 s33.v sq3, Sx.frz (RdRR x46.v ([[⟨#[108]⟩, ⟨#[101]⟩, ⟨#[122]⟩], [⟨#[97]⟩, ⟨#[109]⟩, ⟨#[105]⟩]] : List (List ByteArray))), ownL 9 s56.v ([⟨#[82]⟩, ⟨#[120]⟩, ⟨#[97]⟩, ⟨#[82]⟩, ⟨#[120]⟩] : List ByteArray)]) (fun w h => Cl.sel (.take 15 rfl (.take 15 rfl (.take 15 rfl (.take 14 rfl (.take 6 rfl (.take 0 rfl (.nil _))))))) w h) fun w1 hr => ?_)))))))
  have h6 := hr.blk (b := b6) (cells := [bsl.v]) (t := 45) (by first | assumption | (repeat first | exact .head _ | apply List.Mem.tail))
  have hB := (hr.frz (R := BkIn ⟨bsl, exBl bk⟩) (by first | assumption | (repeat first | exact .head _ | apply List.Mem.tail))).here
  have hB1 := rd_stb hB.1
  have hB2 := hB.2 _ (List.Mem.head _)
  have hB3 := rd_stb hB2.1
  have hB4 := rd_stb (hB2.2 _ (List.Mem.head _)).1
  obtain ⟨v1, g1, g2⟩ := (hr.frz (R := RdRR x21.v ([[⟨#[101, 105]⟩], [⟨#[116]⟩], []] : List (List ByteArray))) (by first | assumption | (repeat first | exact .head _ | apply List.Mem.tail))).here
  have g1 := rd_stb g1
  have g2 := rdR_stb g2
  have hS := hr.own (e := 136) (sv := s33.v) (l := sq3) (by first | assumption | (repeat first | exact .head _ | apply List.Mem.tail))
  obtain ⟨v2, k1, k2⟩ := (hr.frz (R := RdRR x46.v ([[⟨#[108]⟩, ⟨#[101]⟩, ⟨#[122]⟩], [⟨#[97]⟩, ⟨#[109]⟩, ⟨#[105]⟩]] : List (List ByteArray))) (by first | assumption | (repeat first | exact .head _ | apply List.Mem.tail))).here
  have k1 := rd_stb k1
  have k2 := rdR_stb k2
  have hlb : (exBl bk).length = 4 := rfl
  have hA := hr.own (e := 9) (sv := s56.v) (l := ([⟨#[82]⟩, ⟨#[120]⟩, ⟨#[97]⟩, ⟨#[82]⟩, ⟨#[120]⟩] : List ByteArray)) (by first | assumption | (repeat first | exact .head _ | apply List.Mem.tail))
  refine sr rfl rfl rfl ((q_move rfl rfl)) (sr rfl rfl rfl ((q_neq rfl rfl rfl)) (sr rfl rfl rfl ((q_move rfl rfl)) (sr rfl rfl rfl ((q_move rfl rfl)) (sr rfl rfl rfl ((q_neq rfl rfl rfl)) (sr rfl rfl rfl ((q_or2 rfl rfl rfl)) (sr rfl rfl rfl ((q_move rfl rfl)) (sr rfl rfl rfl ((q_move rfl rfl)) (sr rfl rfl rfl ((q_neq rfl rfl rfl)) (sr rfl rfl rfl ((q_or2 rfl rfl rfl)) (sr rfl rfl rfl ((q_move rfl rfl)) (sr rfl rfl rfl ((q_move rfl rfl)) (sr rfl rfl rfl ((q_neq rfl rfl rfl)) (sr rfl rfl rfl ((q_or2 rfl rfl rfl)) (sr rfl rfl rfl ((q_move rfl rfl)) (sr rfl rfl rfl ((q_move rfl rfl)) (sr rfl rfl rfl ((q_neq rfl rfl rfl)) (sr rfl rfl rfl ((q_or2 rfl rfl rfl)) (sr rfl rfl rfl ((q_move rfl rfl)) ?_))))))))))))))))))
  first | refine sr rfl rfl rfl ((q_fieldAddr rfl rfl)) ?_ | refine sr rfl rfl rfl ((q_fieldEl rfl rfl (by first | exact fun w hw => Stb.cl (by assumption) hw | exact fun w hw => rd_own hw (by first | assumption | (repeat first | exact .head _ | apply List.Mem.tail)) | assumption) (by intro hc; first | omega | (simp only [List.length_set, List.length_append, List.length_cons, List.length_nil, List.length_replicate, List.length_take, List.length_drop, List.length_map]; omega) | (simp only [AllT.iff, List.all_cons, List.all_nil, id, Bool.and_eq_true, Bool.not_eq_true', decide_eq_true_eq, decide_eq_false_iff_not, and_true] at hc; first | omega | (simp only [List.length_set, List.length_append, List.length_cons, List.length_nil, List.length_replicate, List.length_take, List.length_drop, List.length_map]; omega)) | (exfalso; simp_all [AllT]; done)))) ?_
  first | refine sr rfl rfl rfl ((q_loadC rfl rfl (by first | assumption | (repeat first | exact .head _ | apply List.Mem.tail)) rfl)) ?_ | refine sr rfl rfl rfl ((q_loadA rfl rfl (by first | assumption | (repeat first | exact .head _ | apply List.Mem.tail)) rfl)) ?_ | refine sr rfl rfl rfl ((q_loadEl rfl rfl rfl (by first | exact fun w hw => Stb.cl (by assumption) hw | exact fun w hw => rd_own hw (by first | assumption | (repeat first | exact .head _ | apply List.Mem.tail)) | assumption) (by intro hc; first | omega | (simp only [List.length_set, List.length_append, List.length_cons, List.length_nil, List.length_replicate, List.length_take, List.length_drop, List.length_map]; omega) | (simp only [AllT.iff, List.all_cons, List.all_nil, id, Bool.and_eq_true, Bool.not_eq_true', decide_eq_true_eq, decide_eq_false_iff_not, and_true] at hc; first | omega | (simp only [List.length_set, List.length_append, List.length_cons, List.length_nil, List.length_replicate, List.length_take, List.length_drop, List.length_map]; omega)) | (exfalso; simp_all [AllT]; done)))) ?_ | refine sr rfl rfl rfl ((q_loadF rfl rfl rfl (by first | exact fun w hw => Stb.cl (by assumption) hw | exact fun w hw => rd_own hw (by first | assumption | (repeat first | exact .head _ | apply List.Mem.tail)) | assumption) (by intro hc; first | omega | (simp only [List.length_set, List.length_append, List.length_cons, List.length_nil, List.length_replicate, List.length_take, List.length_drop, List.length_map]; omega) | (simp only [AllT.iff, List.all_cons, List.all_nil, id, Bool.and_eq_true, Bool.not_eq_true', decide_eq_true_eq, decide_eq_false_iff_not, and_true] at hc; first | omega | (simp only [List.length_set, List.length_append, List.length_cons, List.length_nil, List.length_replicate, List.length_take, List.length_drop, List.length_map]; omega)) | (exfalso; simp_all [AllT]; done)) rfl)) ?_ | refine sr rfl rfl rfl ((q_loadS rfl rfl (fun w hw => Stb.cl (by assumption) hw) rfl)) ?_
  first | refine sr rfl rfl rfl ((q_len rfl (.cons rfl inferInstance (.nil)) (by first | exact fun w hw => Stb.cl (by assumption) hw | exact fun w hw => rd_own hw (by first | assumption | (repeat first | exact .head _ | apply List.Mem.tail)) | assumption))) ?_ | refine sr rfl rfl rfl ((q_lenV rfl (.cons rfl inferInstance (.nil)))) ?_
  refine sr rfl rfl rfl ((q_neq rfl rfl rfl)) (sr rfl rfl rfl ((q_or2 rfl rfl rfl)) (sr rfl rfl rfl ((q_move rfl rfl)) ?_))
  first | refine sr rfl rfl rfl ((q_fieldAddr rfl rfl)) ?_ | refine sr rfl rfl rfl ((q_fieldEl rfl rfl (by first | exact fun w hw => Stb.cl (by assumption) hw | exact fun w hw => rd_own hw (by first | assumption | (repeat first | exact .head _ | apply List.Mem.tail)) | assumption) (by intro hc; first | omega | (simp only [List.length_set, List.length_append, List.length_cons, List.length_nil, List.length_replicate, List.length_take, List.length_drop, List.length_map]; omega) | (simp only [AllT.iff, List.all_cons, List.all_nil, id, Bool.and_eq_true, Bool.not_eq_true', decide_eq_true_eq, decide_eq_false_iff_not, and_true] at hc; first | omega | (simp only [List.length_set, List.length_append, List.length_cons, List.length_nil, List.length_replicate, List.length_take, List.length_drop, List.length_map]; omega)) | (exfalso; simp_all [AllT]; done)))) ?_
  first | refine sr rfl rfl rfl ((q_loadC rfl rfl (by first | assumption | (repeat first | exact .head _ | apply List.Mem.tail)) rfl)) ?_ | refine sr rfl rfl rfl ((q_loadA rfl rfl (by first | assumption | (repeat first | exact .head _ | apply List.Mem.tail)) rfl)) ?_ | refine sr rfl rfl rfl ((q_loadEl rfl rfl rfl (by first | exact fun w hw => Stb.cl (by assumption) hw | exact fun w hw => rd_own hw (by first | assumption | (repeat first | exact .head _ | apply List.Mem.tail)) | assumption) (by intro hc; first | omega | (simp only [List.length_set, List.length_append, List.length_cons, List.length_nil, List.length_replicate, List.length_take, List.length_drop, List.length_map]; omega) | (simp only [AllT.iff, List.all_cons, List.all_nil, id, Bool.and_eq_true, Bool.not_eq_true', decide_eq_true_eq, decide_eq_false_iff_not, and_true] at hc; first | omega | (simp only [List.length_set, List.length_append, List.length_cons, List.length_nil, List.length_replicate, List.length_take, List.length_drop, List.length_map]; omega)) | (exfalso; simp_all [AllT]; done)))) ?_ | refine sr rfl rfl rfl ((q_loadF rfl rfl rfl (by first | exact fun w hw => Stb.cl (by assumption) hw | exact fun w hw => rd_own hw (by first | assumption | (repeat first | exact .head _ | apply List.Mem.tail)) | assumption) (by intro hc; first | omega | (simp only [List.length_set, List.length_append, List.length_cons, List.length_nil, List.length_replicate, List.length_take, List.length_drop, List.length_map]; omega) | (simp only [AllT.iff, List.all_cons, List.all_nil, id, Bool.and_eq_true, Bool.not_eq_true', decide_eq_true_eq, decide_eq_false_iff_not, and_true] at hc; first | omega | (simp only [List.length_set, List.length_append, List.length_cons, List.length_nil, List.length_replicate, List.length_take, List.length_drop, List.length_map]; omega)) | (exfalso; simp_all [AllT]; done)) rfl)) ?_ | refine sr rfl rfl rfl ((q_loadS rfl rfl (fun w hw => Stb.cl (by assumption) hw) rfl)) ?_
  first | refine sr rfl rfl rfl ((q_indexN rfl rfl rfl (by first | exact fun w hw => Stb.cl (by assumption) hw | exact fun w hw => rd_own hw (by first | assumption | (repeat first | exact .head _ | apply List.Mem.tail)) | assumption) (by intro hc; first | omega | (simp only [List.length_set, List.length_append, List.length_cons, List.length_nil, List.length_replicate, List.length_take, List.length_drop, List.length_map]; omega) | (simp only [AllT.iff, List.all_cons, List.all_nil, id, Bool.and_eq_true, Bool.not_eq_true', decide_eq_true_eq, decide_eq_false_iff_not, and_true] at hc; first | omega | (simp only [List.length_set, List.length_append, List.length_cons, List.length_nil, List.length_replicate, List.length_take, List.length_drop, List.length_map]; omega)) | (exfalso; simp_all [AllT]; done)))) ?_ | refine sr rfl rfl rfl ((q_index rfl rfl rfl (by first | exact fun w hw => Stb.cl (by assumption) hw | exact fun w hw => rd_own hw (by first | assumption | (repeat first | exact .head _ | apply List.Mem.tail)) | assumption) (by intro hc; first | omega | (simp only [List.length_set, List.length_append, List.length_cons, List.length_nil, List.length_replicate, List.length_take, List.length_drop, List.length_map]; omega) | (simp only [AllT.iff, List.all_cons, List.all_nil, id, Bool.and_eq_true, Bool.not_eq_true', decide_eq_true_eq, decide_eq_false_iff_not, and_true] at hc; first | omega | (simp only [List.length_set, List.length_append, List.length_cons, List.length_nil, List.length_replicate, List.length_take, List.length_drop, List.length_map]; omega)) | (exfalso; simp_all [AllT]; done)))) ?_
  first | refine sr rfl rfl rfl ((q_fieldAddr rfl rfl)) ?_ | refine sr rfl rfl rfl ((q_fieldEl rfl rfl (by first | exact fun w hw => Stb.cl (by assumption) hw | exact fun w hw => rd_own hw (by first | assumption | (repeat first | exact .head _ | apply List.Mem.tail)) | assumption) (by intro hc; first | omega | (simp only [List.length_set, List.length_append, List.length_cons, List.length_nil, List.length_replicate, List.length_take, List.length_drop, List.length_map]; omega) | (simp only [AllT.iff, List.all_cons, List.all_nil, id, Bool.and_eq_true, Bool.not_eq_true', decide_eq_true_eq, decide_eq_false_iff_not, and_true] at hc; first | omega | (simp only [List.length_set, List.length_append, List.length_cons, List.length_nil, List.length_replicate, List.length_take, List.length_drop, List.length_map]; omega)) | (exfalso; simp_all [AllT]; done)))) ?_
  first | refine sr rfl rfl rfl ((q_loadC rfl rfl (by first | assumption | (repeat first | exact .head _ | apply List.Mem.tail)) rfl)) ?_ | refine sr rfl rfl rfl ((q_loadA rfl rfl (by first | assumption | (repeat first | exact .head _ | apply List.Mem.tail)) rfl)) ?_ | refine sr rfl rfl rfl ((q_loadEl rfl rfl rfl (by first | exact fun w hw => Stb.cl (by assumption) hw | exact fun w hw => rd_own hw (by first | assumption | (repeat first | exact .head _ | apply List.Mem.tail)) | assumption) (by intro hc; first | omega | (simp only [List.length_set, List.length_append, List.length_cons, List.length_nil, List.length_replicate, List.length_take, List.length_drop, List.length_map]; omega) | (simp only [AllT.iff, List.all_cons, List.all_nil, id, Bool.and_eq_true, Bool.not_eq_true', decide_eq_true_eq, decide_eq_false_iff_not, and_true] at hc; first | omega | (simp only [List.length_set, List.length_append, List.length_cons, List.length_nil, List.length_replicate, List.length_take, List.length_drop, List.length_map]; omega)) | (exfalso; simp_all [AllT]; done)))) ?_ | refine sr rfl rfl rfl ((q_loadF rfl rfl rfl (by first | exact fun w hw => Stb.cl (by assumption) hw | exact fun w hw => rd_own hw (by first | assumption | (repeat first | exact .head _ | apply List.Mem.tail)) | assumption) (by intro hc; first | omega | (simp only [List.length_set, List.length_append, List.length_cons, List.length_nil, List.length_replicate, List.length_take, List.length_drop, List.length_map]; omega) | (simp only [AllT.iff, List.all_cons, List.all_nil, id, Bool.and_eq_true, Bool.not_eq_true', decide_eq_true_eq, decide_eq_false_iff_not, and_true] at hc; first | omega | (simp only [List.length_set, List.length_append, List.length_cons, List.length_nil, List.length_replicate, List.length_take, List.length_drop, List.length_map]; omega)) | (exfalso; simp_all [AllT]; done)) rfl)) ?_ | refine sr rfl rfl rfl ((q_loadS rfl rfl (fun w hw => Stb.cl (by assumption) hw) rfl)) ?_
  first | refine sr rfl rfl rfl ((q_len rfl (.cons rfl inferInstance (.nil)) (by first | exact fun w hw => Stb.cl (by assumption) hw | exact fun w hw => rd_own hw (by first | assumption | (repeat first | exact .head _ | apply List.Mem.tail)) | assumption))) ?_ | refine sr rfl rfl rfl ((q_lenV rfl (.cons rfl inferInstance (.nil)))) ?_
  refine sr rfl rfl rfl ((q_neq rfl rfl rfl)) (sr rfl rfl rfl ((q_or2 rfl rfl rfl)) (sw_nil (post_then ?_)))
  refine cw_cond rfl (fun hc => ?_) (fun hc => ?_)
  · skip
    exfalso
    simp [exBl] at hc
  · skip
    refine cw_skip (post_then (cw_seq (cw_region (sr rfl rfl rfl ((q_move rfl rfl)) (sr rfl rfl rfl ((q_eql rfl rfl rfl)) (sr rfl rfl rfl ((q_move rfl rfl)) (sr rfl rfl rfl ((q_move rfl rfl)) ?_)))))))
    refine sw_xc rfl (by first | (simp [AllT]; done) | simp [AllT, *]) rfl rfl ((fun _ => e_buildL (α := ByteArray) (l := [⟨#[101, 105]⟩]) rfl (.cons rfl inferInstance (.nil)) rfl rfl rfl rfl)) (fun s96 => ?_)
    refine sw_xc rfl (by first | (simp [AllT]; done) | simp [AllT, *]) rfl rfl ((fun _ => e_buildL (α := ByteArray) (l := [⟨#[116]⟩]) rfl (.cons rfl inferInstance (.nil)) rfl rfl rfl rfl)) (fun s97 => ?_)
    refine sw_xc rfl (by first | (simp [AllT]; done) | simp [AllT, *]) rfl rfl ((fun _ => e_buildL (α := SlV) (l := [s96, s97, ⟨none, 0, 0⟩]) rfl (.cons rfl inferInstance (.cons rfl inferInstance (.cons rfl inferInstance (.nil)))) rfl rfl rfl rfl)) (fun s98 => ?_)
    refine sw_step rfl rfl rfl (q_call (CanCall.mk Tryz.call25) rfl (.cons rfl inferInstance (.cons rfl inferInstance (.nil))) (fun _ w2 hw => callq hw (samePieces_spec _ _ v1 [s96, s97, ⟨none, 0, 0⟩] ([[⟨#[101, 105]⟩], [⟨#[116]⟩], []] : List (List ByteArray)) ([[⟨#[101, 105]⟩], [⟨#[116]⟩], []] : List (List ByteArray)) w2 (stb_arg hw g1) (stb_own hw (by first | assumption | (repeat first | exact .head _ | apply List.Mem.tail))) (stb_arg hw g2) (rdr_three hw (by first | assumption | (repeat first | exact .head _ | apply List.Mem.tail)) (by first | assumption | (repeat first | exact .head _ | apply List.Mem.tail)))))) ?_
    refine sr rfl rfl rfl ((q_and2 rfl rfl rfl)) (sr rfl rfl rfl ((q_move rfl rfl)) ?_)
    first | refine sr rfl rfl rfl ((q_fieldAddr rfl rfl)) ?_ | refine sr rfl rfl rfl ((q_fieldEl rfl rfl (by first | exact fun w hw => Stb.cl (by assumption) hw | exact fun w hw => rd_own hw (by first | assumption | (repeat first | exact .head _ | apply List.Mem.tail)) | assumption) (by intro hc; first | omega | (simp only [List.length_set, List.length_append, List.length_cons, List.length_nil, List.length_replicate, List.length_take, List.length_drop, List.length_map]; omega) | (simp only [AllT.iff, List.all_cons, List.all_nil, id, Bool.and_eq_true, Bool.not_eq_true', decide_eq_true_eq, decide_eq_false_iff_not, and_true] at hc; first | omega | (simp only [List.length_set, List.length_append, List.length_cons, List.length_nil, List.length_replicate, List.length_take, List.length_drop, List.length_map]; omega)) | (exfalso; simp_all [AllT]; done)))) ?_
    first | refine sr rfl rfl rfl ((q_loadC rfl rfl (by first | assumption | (repeat first | exact .head _ | apply List.Mem.tail)) rfl)) ?_ | refine sr rfl rfl rfl ((q_loadA rfl rfl (by first | assumption | (repeat first | exact .head _ | apply List.Mem.tail)) rfl)) ?_ | refine sr rfl rfl rfl ((q_loadEl rfl rfl rfl (by first | exact fun w hw => Stb.cl (by assumption) hw | exact fun w hw => rd_own hw (by first | assumption | (repeat first | exact .head _ | apply List.Mem.tail)) | assumption) (by intro hc; first | omega | (simp only [List.length_set, List.length_append, List.length_cons, List.length_nil, List.length_replicate, List.length_take, List.length_drop, List.length_map]; omega) | (simp only [AllT.iff, List.all_cons, List.all_nil, id, Bool.and_eq_true, Bool.not_eq_true', decide_eq_true_eq, decide_eq_false_iff_not, and_true] at hc; first | omega | (simp only [List.length_set, List.length_append, List.length_cons, List.length_nil, List.length_replicate, List.length_take, List.length_drop, List.length_map]; omega)) | (exfalso; simp_all [AllT]; done)))) ?_ | refine sr rfl rfl rfl ((q_loadF rfl rfl rfl (by first | exact fun w hw => Stb.cl (by assumption) hw | exact fun w hw => rd_own hw (by first | assumption | (repeat first | exact .head _ | apply List.Mem.tail)) | assumption) (by intro hc; first | omega | (simp only [List.length_set, List.length_append, List.length_cons, List.length_nil, List.length_replicate, List.length_take, List.length_drop, List.length_map]; omega) | (simp only [AllT.iff, List.all_cons, List.all_nil, id, Bool.and_eq_true, Bool.not_eq_true', decide_eq_true_eq, decide_eq_false_iff_not, and_true] at hc; first | omega | (simp only [List.length_set, List.length_append, List.length_cons, List.length_nil, List.length_replicate, List.length_take, List.length_drop, List.length_map]; omega)) | (exfalso; simp_all [AllT]; done)) rfl)) ?_ | refine sr rfl rfl rfl ((q_loadS rfl rfl (fun w hw => Stb.cl (by assumption) hw) rfl)) ?_
    first | refine sr rfl rfl rfl ((q_indexN rfl rfl rfl (by first | exact fun w hw => Stb.cl (by assumption) hw | exact fun w hw => rd_own hw (by first | assumption | (repeat first | exact .head _ | apply List.Mem.tail)) | assumption) (by intro hc; first | omega | (simp only [List.length_set, List.length_append, List.length_cons, List.length_nil, List.length_replicate, List.length_take, List.length_drop, List.length_map]; omega) | (simp only [AllT.iff, List.all_cons, List.all_nil, id, Bool.and_eq_true, Bool.not_eq_true', decide_eq_true_eq, decide_eq_false_iff_not, and_true] at hc; first | omega | (simp only [List.length_set, List.length_append, List.length_cons, List.length_nil, List.length_replicate, List.length_take, List.length_drop, List.length_map]; omega)) | (exfalso; simp_all [AllT]; done)))) ?_ | refine sr rfl rfl rfl ((q_index rfl rfl rfl (by first | exact fun w hw => Stb.cl (by assumption) hw | exact fun w hw => rd_own hw (by first | assumption | (repeat first | exact .head _ | apply List.Mem.tail)) | assumption) (by intro hc; first | omega | (simp only [List.length_set, List.length_append, List.length_cons, List.length_nil, List.length_replicate, List.length_take, List.length_drop, List.length_map]; omega) | (simp only [AllT.iff, List.all_cons, List.all_nil, id, Bool.and_eq_true, Bool.not_eq_true', decide_eq_true_eq, decide_eq_false_iff_not, and_true] at hc; first | omega | (simp only [List.length_set, List.length_append, List.length_cons, List.length_nil, List.length_replicate, List.length_take, List.length_drop, List.length_map]; omega)) | (exfalso; simp_all [AllT]; done)))) ?_
    first | refine sr rfl rfl rfl ((q_fieldAddr rfl rfl)) ?_ | refine sr rfl rfl rfl ((q_fieldEl rfl rfl (by first | exact fun w hw => Stb.cl (by assumption) hw | exact fun w hw => rd_own hw (by first | assumption | (repeat first | exact .head _ | apply List.Mem.tail)) | assumption) (by intro hc; first | omega | (simp only [List.length_set, List.length_append, List.length_cons, List.length_nil, List.length_replicate, List.length_take, List.length_drop, List.length_map]; omega) | (simp only [AllT.iff, List.all_cons, List.all_nil, id, Bool.and_eq_true, Bool.not_eq_true', decide_eq_true_eq, decide_eq_false_iff_not, and_true] at hc; first | omega | (simp only [List.length_set, List.length_append, List.length_cons, List.length_nil, List.length_replicate, List.length_take, List.length_drop, List.length_map]; omega)) | (exfalso; simp_all [AllT]; done)))) ?_
    first | refine sr rfl rfl rfl ((q_loadC rfl rfl (by first | assumption | (repeat first | exact .head _ | apply List.Mem.tail)) rfl)) ?_ | refine sr rfl rfl rfl ((q_loadA rfl rfl (by first | assumption | (repeat first | exact .head _ | apply List.Mem.tail)) rfl)) ?_ | refine sr rfl rfl rfl ((q_loadEl rfl rfl rfl (by first | exact fun w hw => Stb.cl (by assumption) hw | exact fun w hw => rd_own hw (by first | assumption | (repeat first | exact .head _ | apply List.Mem.tail)) | assumption) (by intro hc; first | omega | (simp only [List.length_set, List.length_append, List.length_cons, List.length_nil, List.length_replicate, List.length_take, List.length_drop, List.length_map]; omega) | (simp only [AllT.iff, List.all_cons, List.all_nil, id, Bool.and_eq_true, Bool.not_eq_true', decide_eq_true_eq, decide_eq_false_iff_not, and_true] at hc; first | omega | (simp only [List.length_set, List.length_append, List.length_cons, List.length_nil, List.length_replicate, List.length_take, List.length_drop, List.length_map]; omega)) | (exfalso; simp_all [AllT]; done)))) ?_ | refine sr rfl rfl rfl ((q_loadF rfl rfl rfl (by first | exact fun w hw => Stb.cl (by assumption) hw | exact fun w hw => rd_own hw (by first | assumption | (repeat first | exact .head _ | apply List.Mem.tail)) | assumption) (by intro hc; first | omega | (simp only [List.length_set, List.length_append, List.length_cons, List.length_nil, List.length_replicate, List.length_take, List.length_drop, List.length_map]; omega) | (simp only [AllT.iff, List.all_cons, List.all_nil, id, Bool.and_eq_true, Bool.not_eq_true', decide_eq_true_eq, decide_eq_false_iff_not, and_true] at hc; first | omega | (simp only [List.length_set, List.length_append, List.length_cons, List.length_nil, List.length_replicate, List.length_take, List.length_drop, List.length_map]; omega)) | (exfalso; simp_all [AllT]; done)) rfl)) ?_ | refine sr rfl rfl rfl ((q_loadS rfl rfl (fun w hw => Stb.cl (by assumption) hw) rfl)) ?_
    first | refine sr rfl rfl rfl ((q_indexN rfl rfl rfl (by first | exact fun w hw => Stb.cl (by assumption) hw | exact fun w hw => rd_own hw (by first | assumption | (repeat first | exact .head _ | apply List.Mem.tail)) | assumption) (by intro hc; first | omega | (simp only [List.length_set, List.length_append, List.length_cons, List.length_nil, List.length_replicate, List.length_take, List.length_drop, List.length_map]; omega) | (simp only [AllT.iff, List.all_cons, List.all_nil, id, Bool.and_eq_true, Bool.not_eq_true', decide_eq_true_eq, decide_eq_false_iff_not, and_true] at hc; first | omega | (simp only [List.length_set, List.length_append, List.length_cons, List.length_nil, List.length_replicate, List.length_take, List.length_drop, List.length_map]; omega)) | (exfalso; simp_all [AllT]; done)))) ?_ | refine sr rfl rfl rfl ((q_index rfl rfl rfl (by first | exact fun w hw => Stb.cl (by assumption) hw | exact fun w hw => rd_own hw (by first | assumption | (repeat first | exact .head _ | apply List.Mem.tail)) | assumption) (by intro hc; first | omega | (simp only [List.length_set, List.length_append, List.length_cons, List.length_nil, List.length_replicate, List.length_take, List.length_drop, List.length_map]; omega) | (simp only [AllT.iff, List.all_cons, List.all_nil, id, Bool.and_eq_true, Bool.not_eq_true', decide_eq_true_eq, decide_eq_false_iff_not, and_true] at hc; first | omega | (simp only [List.length_set, List.length_append, List.length_cons, List.length_nil, List.length_replicate, List.length_take, List.length_drop, List.length_map]; omega)) | (exfalso; simp_all [AllT]; done)))) ?_
    first | refine sr rfl rfl rfl ((q_fieldAddr rfl rfl)) ?_ | refine sr rfl rfl rfl ((q_fieldEl rfl rfl (by first | exact fun w hw => Stb.cl (by assumption) hw | exact fun w hw => rd_own hw (by first | assumption | (repeat first | exact .head _ | apply List.Mem.tail)) | assumption) (by intro hc; first | omega | (simp only [List.length_set, List.length_append, List.length_cons, List.length_nil, List.length_replicate, List.length_take, List.length_drop, List.length_map]; omega) | (simp only [AllT.iff, List.all_cons, List.all_nil, id, Bool.and_eq_true, Bool.not_eq_true', decide_eq_true_eq, decide_eq_false_iff_not, and_true] at hc; first | omega | (simp only [List.length_set, List.length_append, List.length_cons, List.length_nil, List.length_replicate, List.length_take, List.length_drop, List.length_map]; omega)) | (exfalso; simp_all [AllT]; done)))) ?_
    first | refine sr rfl rfl rfl ((q_loadC rfl rfl (by first | assumption | (repeat first | exact .head _ | apply List.Mem.tail)) rfl)) ?_ | refine sr rfl rfl rfl ((q_loadA rfl rfl (by first | assumption | (repeat first | exact .head _ | apply List.Mem.tail)) rfl)) ?_ | refine sr rfl rfl rfl ((q_loadEl rfl rfl rfl (by first | exact fun w hw => Stb.cl (by assumption) hw | exact fun w hw => rd_own hw (by first | assumption | (repeat first | exact .head _ | apply List.Mem.tail)) | assumption) (by intro hc; first | omega | (simp only [List.length_set, List.length_append, List.length_cons, List.length_nil, List.length_replicate, List.length_take, List.length_drop, List.length_map]; omega) | (simp only [AllT.iff, List.all_cons, List.all_nil, id, Bool.and_eq_true, Bool.not_eq_true', decide_eq_true_eq, decide_eq_false_iff_not, and_true] at hc; first | omega | (simp only [List.length_set, List.length_append, List.length_cons, List.length_nil, List.length_replicate, List.length_take, List.length_drop, List.length_map]; omega)) | (exfalso; simp_all [AllT]; done)))) ?_ | refine sr rfl rfl rfl ((q_loadF rfl rfl rfl (by first | exact fun w hw => Stb.cl (by assumption) hw | exact fun w hw => rd_own hw (by first | assumption | (repeat first | exact .head _ | apply List.Mem.tail)) | assumption) (by intro hc; first | omega | (simp only [List.length_set, List.length_append, List.length_cons, List.length_nil, List.length_replicate, List.length_take, List.length_drop, List.length_map]; omega) | (simp only [AllT.iff, List.all_cons, List.all_nil, id, Bool.and_eq_true, Bool.not_eq_true', decide_eq_true_eq, decide_eq_false_iff_not, and_true] at hc; first | omega | (simp only [List.length_set, List.length_append, List.length_cons, List.length_nil, List.length_replicate, List.length_take, List.length_drop, List.length_map]; omega)) | (exfalso; simp_all [AllT]; done)) rfl)) ?_ | refine sr rfl rfl rfl ((q_loadS rfl rfl (fun w hw => Stb.cl (by assumption) hw) rfl)) ?_
    refine sr rfl rfl rfl ((q_build rfl (.cons rfl inferInstance (.nil)) rfl)) ?_
    refine sw_ung (by first | (simp [AllT]; done) | simp [AllT, *]) ?_
    refine sw_xc rfl (by first | (simp [AllT]; done) | simp [AllT, *]) rfl rfl ((fun _ => e_buildL (α := Cond) (l := [⟨-1, 0⟩]) rfl (.cons rfl inferInstance (.nil)) rfl rfl rfl rfl)) (fun s111 => ?_)
    refine sw_step rfl rfl rfl (q_call (CanCall.mk Tryz.call60) rfl (.cons rfl inferInstance (.cons rfl inferInstance (.nil))) (fun _ w2 hw => callq hw (sameTests_spec _ _ [⟨-1, 0⟩] [⟨-1, 0⟩] w2 (stb_arg hw hB4) (stb_own hw (by first | assumption | (repeat first | exact .head _ | apply List.Mem.tail)))))) ?_
    refine sr rfl rfl rfl ((q_and2 rfl rfl rfl)) (sr rfl rfl rfl ((q_move rfl rfl)) (sr rfl rfl rfl ((q_move rfl rfl)) ?_))
    refine sw_xc rfl (by first | (simp [AllT]; done) | simp [AllT, *]) rfl rfl (e_callc (CanCall.mk Tryz.call39) rfl (.cons rfl inferInstance (.nil)) (fun w2 hw => said39_spec _ sq3 (by omega) w2 (stb_arg hw hS))) (fun s116 => ?_)
    refine sw_imp fun _ => ?_
    rw [hsr1]
    refine sw_xc rfl (by first | (simp [AllT]; done) | simp [AllT, *]) rfl rfl ((fun _ => e_buildL (α := ByteArray) (l := [⟨#[107]⟩, ⟨#[97]⟩, ⟨#[116]⟩]) rfl (.cons rfl inferInstance (.cons rfl inferInstance (.cons rfl inferInstance (.nil)))) rfl rfl rfl rfl)) (fun s117 => ?_)
    refine sw_step rfl rfl rfl (q_call (CanCall.mk Tryz.call38) rfl (.cons rfl inferInstance (.cons rfl inferInstance (.nil))) (fun _ w2 hw => callq hw (order_spec _ _ [⟨#[107]⟩, ⟨#[97]⟩, ⟨#[116]⟩] [⟨#[107]⟩, ⟨#[97]⟩, ⟨#[116]⟩] w2 (stb_own hw (by first | assumption | (repeat first | exact .head _ | apply List.Mem.tail))) (stb_own hw (by first | assumption | (repeat first | exact .head _ | apply List.Mem.tail)))))) ?_
    rw [ord_self]
    refine sr rfl rfl rfl ((q_eql rfl rfl rfl)) (sr rfl rfl rfl ((q_and2 rfl rfl rfl)) (sr rfl rfl rfl ((q_move rfl rfl)) (sr rfl rfl rfl ((q_move rfl rfl)) ?_)))
    refine sw_xc rfl (by first | (simp [AllT]; done) | simp [AllT, *]) rfl rfl ((fun _ => e_buildL (α := ByteArray) (l := [⟨#[108]⟩, ⟨#[101]⟩, ⟨#[122]⟩]) rfl (.cons rfl inferInstance (.cons rfl inferInstance (.cons rfl inferInstance (.nil)))) rfl rfl rfl rfl)) (fun s123 => ?_)
    refine sw_xc rfl (by first | (simp [AllT]; done) | simp [AllT, *]) rfl rfl ((fun _ => e_buildL (α := ByteArray) (l := [⟨#[97]⟩, ⟨#[109]⟩, ⟨#[105]⟩]) rfl (.cons rfl inferInstance (.cons rfl inferInstance (.cons rfl inferInstance (.nil)))) rfl rfl rfl rfl)) (fun s124 => ?_)
    refine sw_xc rfl (by first | (simp [AllT]; done) | simp [AllT, *]) rfl rfl ((fun _ => e_buildL (α := SlV) (l := [s123, s124]) rfl (.cons rfl inferInstance (.cons rfl inferInstance (.nil))) rfl rfl rfl rfl)) (fun s125 => ?_)
    refine sw_step rfl rfl rfl (q_call (CanCall.mk Tryz.call25) rfl (.cons rfl inferInstance (.cons rfl inferInstance (.nil))) (fun _ w2 hw => callq hw (samePieces_spec _ _ v2 [s123, s124] ([[⟨#[108]⟩, ⟨#[101]⟩, ⟨#[122]⟩], [⟨#[97]⟩, ⟨#[109]⟩, ⟨#[105]⟩]] : List (List ByteArray)) ([[⟨#[108]⟩, ⟨#[101]⟩, ⟨#[122]⟩], [⟨#[97]⟩, ⟨#[109]⟩, ⟨#[105]⟩]] : List (List ByteArray)) w2 (stb_arg hw k1) (stb_own hw (by first | assumption | (repeat first | exact .head _ | apply List.Mem.tail))) (stb_arg hw k2) (rdr_two hw (by first | assumption | (repeat first | exact .head _ | apply List.Mem.tail)) (by first | assumption | (repeat first | exact .head _ | apply List.Mem.tail)))))) ?_
    refine sr rfl rfl rfl ((q_and2 rfl rfl rfl)) (sr rfl rfl rfl ((q_move rfl rfl)) (sr rfl rfl rfl ((q_move rfl rfl)) ?_))
    refine sw_xc rfl (by first | (simp [AllT]; done) | simp [AllT, *]) rfl rfl ((fun _ => e_buildL (α := ByteArray) (l := [⟨#[82]⟩, ⟨#[120]⟩, ⟨#[97]⟩, ⟨#[82]⟩, ⟨#[120]⟩]) rfl (.cons rfl inferInstance (.cons rfl inferInstance (.cons rfl inferInstance (.cons rfl inferInstance (.cons rfl inferInstance (.nil)))))) rfl rfl rfl rfl)) (fun s130 => ?_)
    refine sw_step rfl rfl rfl (q_call (CanCall.mk Tryz.call38) rfl (.cons rfl inferInstance (.cons rfl inferInstance (.nil))) (fun _ w2 hw => callq hw (order_spec _ _ [⟨#[82]⟩, ⟨#[120]⟩, ⟨#[97]⟩, ⟨#[82]⟩, ⟨#[120]⟩] [⟨#[82]⟩, ⟨#[120]⟩, ⟨#[97]⟩, ⟨#[82]⟩, ⟨#[120]⟩] w2 (stb_arg hw hA) (stb_own hw (by first | assumption | (repeat first | exact .head _ | apply List.Mem.tail)))))) ?_
    rw [ord_self]
    refine sr rfl rfl rfl ((q_eql rfl rfl rfl)) (sr rfl rfl rfl ((q_and2 rfl rfl rfl)) (sr rfl rfl rfl ((q_assign rfl rfl)) (sw_nil (post_then (cw_ret (post_ret1 rfl (resOk_tmp rfl) ?_))))))
    exact fun w' hw => ⟨by simp, Cl.sel (.nil _) _ (hr.cl hw)⟩
end Go.Proofs.YtkmbliojafefdaaGreatDoor

set_option autoImplicit false
set_option maxRecDepth 100000
namespace Go.Proofs.YtkmbliojafefdaaGreatDoor
open Go.Sx
open Enc (enc val)
structure FgAt (a : List Fgn) (k : Nat) : Prop where
  ph : phonesOk [(nth a k).phone] 1 = true
  lt : 0 < k → sLt (nth a (k - 1)).phone (nth a k).phone = true
  l1 : 1 ≤ (nth a k).sl.length
  l5 : (nth a k).sl.length ≤ 5
  st : ∀ j, j < (nth a k).sl.length → phonesOk (nth (nth a k).sl j) 3 = true
theorem foreign_yes {a : List Fgn} (h : ∀ k, k < a.length → FgAt a k) (hl : a.length ≤ 200) : foreignOk a = true := by
  unfold foreignOk
  simp only [Bool.and_eq_true, decide_eq_true_eq, List.all_eq_true]
  refine ⟨⟨hl, riseB_yes.2 fun k h1 h2 => cmpS_neg.2 ((h k h2).lt (by omega))⟩, fun x hx => ?_⟩
  obtain ⟨k, hk, rfl⟩ := List.getElem_of_mem hx
  have := h k hk
  obtain ⟨h1, _, h3, h4, h5⟩ := this
  rw [nth_get hk] at h1 h3 h4 h5
  unfold accOk
  simp only [Bool.and_eq_true, decide_eq_true_eq, List.all_eq_true]
  refine ⟨⟨⟨h1, h3⟩, h4⟩, fun q hq => ?_⟩
  obtain ⟨j, hj, rfl⟩ := List.getElem_of_mem hq
  have := h5 j hj
  rwa [nth_get hj] at this
theorem foreign_at {a : List Fgn} (h : foreignOk a = true) {k : Nat} (hk : k < a.length) : FgAt a k := by
  unfold foreignOk at h
  simp only [Bool.and_eq_true, decide_eq_true_eq, List.all_eq_true] at h
  obtain ⟨⟨_, h1⟩, h2⟩ := h
  have h3 := h2 _ (nth_mem hk)
  unfold accOk at h3
  simp only [Bool.and_eq_true, decide_eq_true_eq, List.all_eq_true] at h3
  exact ⟨h3.1.1.1, fun h0 => cmpS_neg.1 (riseB_yes.1 h1 k (by omega) hk), h3.1.1.2, h3.1.2, fun j hj => h3.2 _ (nth_mem hj)⟩
theorem lt_asym {x y : ByteArray} (h : sLt y x = true) : sLt x y = false ∧ ¬ x = y := by
  refine ⟨?_, fun e => ?_⟩
  · cases h2 : sLt x y with
    | false => rfl
    | true => have := sLt_trans h h2; rw [sLt_irr] at this; cases this
  · subst e; rw [sLt_irr] at h; cases h
theorem lt_of {x y : ByteArray} (h : sLt x y = false ∧ ¬ x = y) : sLt y x = true := by
  rcases sLt_tri x y with h1 | h1 | h1
  · rw [h1] at h; cases h.1
  · exact absurd h1 h.2
  · exact h1
theorem refForeign_spec (sv : Value) (a : List Fgn) (hz : ∀ x ∈ a, x.phone.size ≤ 1000 ∧ ∀ q ∈ x.sl, ∀ b ∈ q, b.size ≤ 1000) (w : World) (hs : Stb w [] (RdL sv a)) (hp : Stb w [] fun w' => ∀ u ∈ a, FgnIn u w') : Calls Tryz.prog 48 #[sv] w fun e w' => e = .returned (.bool (foreignOk a)) ∧ Cl w [] [] w' := by
  have hL := rd_len hs.here
  refine calls_cw (vs := [_]) Tryz.func48 rfl Tryz.ntmps48 rfl (Cl.start0 w) (cw_seq (cw_region (sr rfl rfl rfl ((q_assign rfl rfl)) (sw_nil (post_then (cw_seq (cw_seq (cw_region (sr rfl rfl rfl ((q_assign rfl rfl)) (sw_nil (post_then (cw_block ?_))))))))))))
  refine cw_loop (S := Nat) (fun k => [(0, [], sv), (3, [], .int .i64 k)]) (fun _ => Cl w [] []) (fun k => k ≤ a.length ∧ ∀ j, j < k → FgAt a j) (fun k => a.length - k) 0 ⟨by omega, fun j hj => by omega⟩ (by exact .cons rfl (.cons rfl .nil)) (fun _ h => h) ?_
  rintro k ⟨hk, hbe⟩
  refine cw_seq (cw_seq (cw_region (sr rfl rfl rfl ((q_move rfl rfl)) (sr rfl rfl rfl ((q_move rfl rfl)) ?_))))
  refine sr rfl rfl rfl ((q_len rfl (.cons rfl inferInstance (.nil)) (by exact fun w hw => Stb.cl (by assumption) hw))) ?_
  refine sr rfl rfl rfl ((q_lss rfl rfl rfl)) (sw_nil (post_then ?_))
  refine cw_cond rfl (fun h => ?_) (fun h => ?_)
  · skip
    have hk' : k < a.length := by simp at h; omega
    have hxm : nth a k ∈ a := nth_mem hk'
    obtain ⟨hz1, hz2⟩ := hz _ hxm
    have hzp : ∀ b ∈ [(nth a k).phone], b.size ≤ 9223372036854775807 := fun b hb => by simp at hb; subst hb; omega
    obtain ⟨vs, g1, g2⟩ := hp.here _ hxm
    have g1 := rd_stb g1
    have g2 := rdR_stb g2
    have hvl := g2.here.1
    have hvL := rd_len g1.here
    have e1 : 0 < k → ((k : Int) - 1).toNat = k - 1 := fun h0 => by omega
    refine cw_skip (post_then (cw_seq (cw_block (cw_seq (cw_seq (cw_region_a (Cl w [] []) [] mixed_Tryz ?_))))))
    refine aw_pure 0 rfl (by kernel_rfl) (by kernel_rfl) (by kernel_rfl) (by kernel_rfl) (by kernel_rfl) rfl rfl rfl (q_move rfl rfl) ?_
    refine aw_pure 1 rfl (by kernel_rfl) (by kernel_rfl) (by kernel_rfl) (by kernel_rfl) (by kernel_rfl) rfl rfl rfl (q_move rfl rfl) ?_
    refine aw_take 2 (fun w h => Cl.sel (by exact .nil _) w h) rfl (by kernel_rfl) (by kernel_rfl) (by kernel_rfl) (by kernel_rfl) (by kernel_rfl) (by kernel_rfl) rfl rfl rfl (q_indexN rfl rfl rfl (by exact fun w hw => Stb.cl (by assumption) hw) (by intro hc; omega)) ?_
    refine aw_take 3 (fun w h => Cl.sel (by exact .nil _) w h) rfl (by kernel_rfl) (by kernel_rfl) (by kernel_rfl) (by kernel_rfl) (by kernel_rfl) (by kernel_rfl) rfl rfl rfl (q_fieldEl rfl rfl (by exact fun w hw => Stb.cl (by assumption) hw) (by intro hc; omega)) ?_
    refine aw_take 4 (fun w h => Cl.sel (by exact .nil _) w h) rfl (by kernel_rfl) (by kernel_rfl) (by kernel_rfl) (by kernel_rfl) (by kernel_rfl) (by kernel_rfl) rfl rfl rfl (q_loadF rfl rfl rfl (by exact fun w hw => Stb.cl (by assumption) hw) (by intro hc; omega) rfl) ?_
    refine aw_x 5 (by kernel_rfl) rfl rfl rfl rfl (e_build1 (α := ByteArray) rfl rfl rfl rfl) (by intro hb; exact fun _ => (fun w h => Cl.sel (by exact .nil _) w h)) (fun s16 => ?_)
    refine aw_q 6 (by kernel_rfl) rfl rfl rfl rfl (q_call (CanCall.mk Tryz.call23) rfl (.cons rfl inferInstance (.cons rfl inferInstance (.nil))) (fun _ w hw => callq hw (refPhones_spec _ _ _ w (by exact stb_own hw (by exact .head _)) (by assumption)))) (by intro hb; exact (fun w h => Cl.sel (by exact .nil _) w h)) ?_
    refine aw_pure 7 rfl (by kernel_rfl) (by kernel_rfl) (by kernel_rfl) (by kernel_rfl) (by kernel_rfl) rfl rfl rfl (q_not rfl rfl) ?_
    refine aw_pure 8 rfl (by kernel_rfl) (by kernel_rfl) (by kernel_rfl) (by kernel_rfl) (by kernel_rfl) rfl rfl rfl (q_move rfl rfl) ?_
    refine aw_pure 9 rfl (by kernel_rfl) (by kernel_rfl) (by kernel_rfl) (by kernel_rfl) (by kernel_rfl) rfl rfl rfl (q_move rfl rfl) ?_
    refine aw_pure 10 rfl (by kernel_rfl) (by kernel_rfl) (by kernel_rfl) (by kernel_rfl) (by kernel_rfl) rfl rfl rfl (q_gtr rfl rfl rfl) ?_
    refine aw_pure 11 rfl (by kernel_rfl) (by kernel_rfl) (by kernel_rfl) (by kernel_rfl) (by kernel_rfl) rfl rfl rfl (q_move rfl rfl) ?_
    refine aw_pure 12 rfl (by kernel_rfl) (by kernel_rfl) (by kernel_rfl) (by kernel_rfl) (by kernel_rfl) rfl rfl rfl (q_move rfl rfl) ?_
    refine aw_pure 13 rfl (by kernel_rfl) (by kernel_rfl) (by kernel_rfl) (by kernel_rfl) (by kernel_rfl) rfl rfl rfl (q_move rfl rfl) ?_
    refine aw_take 14 (fun w h => Cl.sel (by exact .nil _) w h) rfl (by kernel_rfl) (by kernel_rfl) (by kernel_rfl) (by kernel_rfl) (by kernel_rfl) (by kernel_rfl) rfl rfl rfl (q_indexN rfl rfl rfl (by exact fun w hw => Stb.cl (by assumption) hw) (by intro hc; omega)) ?_
    refine aw_take 15 (fun w h => Cl.sel (by exact .nil _) w h) rfl (by kernel_rfl) (by kernel_rfl) (by kernel_rfl) (by kernel_rfl) (by kernel_rfl) (by kernel_rfl) rfl rfl rfl (q_fieldEl rfl rfl (by exact fun w hw => Stb.cl (by assumption) hw) (by intro hc; omega)) ?_
    refine aw_take 16 (fun w h => Cl.sel (by exact .nil _) w h) rfl (by kernel_rfl) (by kernel_rfl) (by kernel_rfl) (by kernel_rfl) (by kernel_rfl) (by kernel_rfl) rfl rfl rfl (q_loadF rfl rfl rfl (by exact fun w hw => Stb.cl (by assumption) hw) (by intro hc; omega) rfl) ?_
    refine aw_pure 17 rfl (by kernel_rfl) (by kernel_rfl) (by kernel_rfl) (by kernel_rfl) (by kernel_rfl) rfl rfl rfl (q_move rfl rfl) ?_
    refine aw_pure 18 rfl (by kernel_rfl) (by kernel_rfl) (by kernel_rfl) (by kernel_rfl) (by kernel_rfl) rfl rfl rfl (q_move rfl rfl) ?_
    refine aw_pure 19 rfl (by kernel_rfl) (by kernel_rfl) (by kernel_rfl) (by kernel_rfl) (by kernel_rfl) rfl rfl rfl (q_sub rfl rfl rfl (by intro hc; omega)) ?_
    refine aw_take 20 (fun w h => Cl.sel (by exact .nil _) w h) rfl (by kernel_rfl) (by kernel_rfl) (by kernel_rfl) (by kernel_rfl) (by kernel_rfl) (by kernel_rfl) rfl rfl rfl (q_index rfl rfl rfl (by exact fun w hw => Stb.cl (by assumption) hw) (by intro hc; (simp only [AllT.iff, List.all_cons, List.all_nil, id, Bool.and_eq_true, Bool.not_eq_true', decide_eq_true_eq, decide_eq_false_iff_not, and_true] at hc; omega))) ?_
    refine aw_take 21 (fun w h => Cl.sel (by exact .nil _) w h) rfl (by kernel_rfl) (by kernel_rfl) (by kernel_rfl) (by kernel_rfl) (by kernel_rfl) (by kernel_rfl) rfl rfl rfl (q_fieldEl rfl rfl (by exact fun w hw => Stb.cl (by assumption) hw) (by intro hc; omega)) ?_
    refine aw_take 22 (fun w h => Cl.sel (by exact .nil _) w h) rfl (by kernel_rfl) (by kernel_rfl) (by kernel_rfl) (by kernel_rfl) (by kernel_rfl) (by kernel_rfl) rfl rfl rfl (q_loadF rfl rfl rfl (by exact fun w hw => Stb.cl (by assumption) hw) (by intro hc; omega) rfl) ?_
    refine aw_pure 23 rfl (by kernel_rfl) (by kernel_rfl) (by kernel_rfl) (by kernel_rfl) (by kernel_rfl) rfl rfl rfl (q_leqStr rfl rfl rfl Tryz.underlying9) ?_
    refine aw_pure 24 rfl (by kernel_rfl) (by kernel_rfl) (by kernel_rfl) (by kernel_rfl) (by kernel_rfl) rfl rfl rfl (q_and2 rfl rfl rfl) ?_
    refine aw_pure 25 rfl (by kernel_rfl) (by kernel_rfl) (by kernel_rfl) (by kernel_rfl) (by kernel_rfl) rfl rfl rfl (q_or2 rfl rfl rfl) ?_
    refine aw_pure 26 rfl (by kernel_rfl) (by kernel_rfl) (by kernel_rfl) (by kernel_rfl) (by kernel_rfl) rfl rfl rfl (q_move rfl rfl) ?_
    refine aw_pure 27 rfl (by kernel_rfl) (by kernel_rfl) (by kernel_rfl) (by kernel_rfl) (by kernel_rfl) rfl rfl rfl (q_move rfl rfl) ?_
    refine aw_pure 28 rfl (by kernel_rfl) (by kernel_rfl) (by kernel_rfl) (by kernel_rfl) (by kernel_rfl) rfl rfl rfl (q_move rfl rfl) ?_
    refine aw_take 29 (fun w h => Cl.sel (by exact .nil _) w h) rfl (by kernel_rfl) (by kernel_rfl) (by kernel_rfl) (by kernel_rfl) (by kernel_rfl) (by kernel_rfl) rfl rfl rfl (q_indexN rfl rfl rfl (by exact fun w hw => Stb.cl (by assumption) hw) (by intro hc; omega)) ?_
    refine aw_take 30 (fun w h => Cl.sel (by exact .nil _) w h) rfl (by kernel_rfl) (by kernel_rfl) (by kernel_rfl) (by kernel_rfl) (by kernel_rfl) (by kernel_rfl) rfl rfl rfl (q_fieldEl rfl rfl (by exact fun w hw => Stb.cl (by assumption) hw) (by intro hc; omega)) ?_
    refine aw_take 31 (fun w h => Cl.sel (by exact .nil _) w h) rfl (by kernel_rfl) (by kernel_rfl) (by kernel_rfl) (by kernel_rfl) (by kernel_rfl) (by kernel_rfl) rfl rfl rfl (q_loadF rfl rfl rfl (by exact fun w hw => Stb.cl (by assumption) hw) (by intro hc; omega) rfl) ?_
    refine aw_take 32 (fun w h => Cl.sel (by exact .nil _) w h) rfl (by kernel_rfl) (by kernel_rfl) (by kernel_rfl) (by kernel_rfl) (by kernel_rfl) (by kernel_rfl) rfl rfl rfl (q_len rfl (.cons rfl inferInstance (.nil)) (by exact fun w hw => Stb.cl (by assumption) hw)) ?_
    refine aw_pure 33 rfl (by kernel_rfl) (by kernel_rfl) (by kernel_rfl) (by kernel_rfl) (by kernel_rfl) rfl rfl rfl (q_lss rfl rfl rfl) ?_
    refine aw_pure 34 rfl (by kernel_rfl) (by kernel_rfl) (by kernel_rfl) (by kernel_rfl) (by kernel_rfl) rfl rfl rfl (q_or2 rfl rfl rfl) ?_
    refine aw_pure 35 rfl (by kernel_rfl) (by kernel_rfl) (by kernel_rfl) (by kernel_rfl) (by kernel_rfl) rfl rfl rfl (q_move rfl rfl) ?_
    refine aw_pure 36 rfl (by kernel_rfl) (by kernel_rfl) (by kernel_rfl) (by kernel_rfl) (by kernel_rfl) rfl rfl rfl (q_move rfl rfl) ?_
    refine aw_pure 37 rfl (by kernel_rfl) (by kernel_rfl) (by kernel_rfl) (by kernel_rfl) (by kernel_rfl) rfl rfl rfl (q_move rfl rfl) ?_
    refine aw_take 38 (fun w h => Cl.sel (by exact .nil _) w h) rfl (by kernel_rfl) (by kernel_rfl) (by kernel_rfl) (by kernel_rfl) (by kernel_rfl) (by kernel_rfl) rfl rfl rfl (q_indexN rfl rfl rfl (by exact fun w hw => Stb.cl (by assumption) hw) (by intro hc; omega)) ?_
    refine aw_take 39 (fun w h => Cl.sel (by exact .nil _) w h) rfl (by kernel_rfl) (by kernel_rfl) (by kernel_rfl) (by kernel_rfl) (by kernel_rfl) (by kernel_rfl) rfl rfl rfl (q_fieldEl rfl rfl (by exact fun w hw => Stb.cl (by assumption) hw) (by intro hc; omega)) ?_
    refine aw_take 40 (fun w h => Cl.sel (by exact .nil _) w h) rfl (by kernel_rfl) (by kernel_rfl) (by kernel_rfl) (by kernel_rfl) (by kernel_rfl) (by kernel_rfl) rfl rfl rfl (q_loadF rfl rfl rfl (by exact fun w hw => Stb.cl (by assumption) hw) (by intro hc; omega) rfl) ?_
    refine aw_take 41 (fun w h => Cl.sel (by exact .nil _) w h) rfl (by kernel_rfl) (by kernel_rfl) (by kernel_rfl) (by kernel_rfl) (by kernel_rfl) (by kernel_rfl) rfl rfl rfl (q_len rfl (.cons rfl inferInstance (.nil)) (by exact fun w hw => Stb.cl (by assumption) hw)) ?_
    refine aw_pure 42 rfl (by kernel_rfl) (by kernel_rfl) (by kernel_rfl) (by kernel_rfl) (by kernel_rfl) rfl rfl rfl (q_gtr rfl rfl rfl) ?_
    refine aw_pure 43 rfl (by kernel_rfl) (by kernel_rfl) (by kernel_rfl) (by kernel_rfl) (by kernel_rfl) rfl rfl rfl (q_or2 rfl rfl rfl) ?_
    refine aw_end (by kernel_rfl) ?_
    refine post_then ?_
    refine cw_cond rfl (fun h2 => ?_) (fun h2 => ?_)
    · skip
      have hf : foreignOk a = false := by
        cases hf : foreignOk a with
        | false => rfl
        | true =>
          exfalso
          obtain ⟨f1, f2, f3, f4, f5⟩ := foreign_at hf hk'
          by_cases hk0 : 0 < k
          · have f2 := f2 hk0
            rw [e1 hk0] at h2
            have f6 := lt_asym f2
            simp [f1, f6, hk0] at h2
            omega
          · have hk1 : k = 0 := by omega
            subst hk1
            simp [f1] at h2
            omega
      refine cw_seq (cw_region (sr rfl rfl rfl ((q_assign rfl rfl)) (sw_nil (post_then (cw_ret (post_then_r (post_blk_r (post_then_r (post_then_r (post_blk_r (post_then_r (post_ret1 rfl (resOk_tmp rfl) ?_))))))))))))
      exact fun w' hw => ⟨by rw [hf], (fun w h => Cl.sel (by exact .nil _) w h) _ hw⟩
    · skip
      refine cw_skip (post_then (cw_seq (cw_region (sr rfl rfl rfl ((q_assign rfl rfl)) (sw_nil (post_then (cw_block ?_)))))))
      refine cw_loop (S := Nat) (fun j => [(0, [], sv), (3, [], .int .i64 k), (4, [], .int .i64 j)]) (fun _ => Cl w [] []) (fun j => j ≤ vs.length ∧ ∀ i, i < j → phonesOk (nth (nth a k).sl i) 3 = true) (fun j => vs.length - j) 0 ⟨by omega, fun j hj => by omega⟩ (by exact .cons rfl (.cons rfl (.cons rfl .nil))) (fun w h => Cl.sel (by exact .nil _) w h) ?_
      rintro j ⟨hj, hbj⟩
      refine cw_seq (cw_seq (cw_region (sr rfl rfl rfl ((q_move rfl rfl)) (sr rfl rfl rfl ((q_move rfl rfl)) (sr rfl rfl rfl ((q_move rfl rfl)) ?_)))))
      refine sr rfl rfl rfl ((q_indexN rfl rfl rfl (by exact fun w hw => Stb.cl (by assumption) hw) (by intro hc; omega))) ?_
      refine sr rfl rfl rfl ((q_fieldEl rfl rfl (by exact fun w hw => Stb.cl (by assumption) hw) (by intro hc; omega))) ?_
      refine sr rfl rfl rfl ((q_loadF rfl rfl rfl (by exact fun w hw => Stb.cl (by assumption) hw) (by intro hc; omega) rfl)) ?_
      refine sr rfl rfl rfl ((q_len rfl (.cons rfl inferInstance (.nil)) (by exact fun w hw => Stb.cl (by assumption) hw))) ?_
      refine sr rfl rfl rfl ((q_lss rfl rfl rfl)) (sw_nil (post_then ?_))
      refine cw_cond rfl (fun h3 => ?_) (fun h3 => ?_)
      · skip
        have hj' : j < vs.length := by simp at h3; omega
        have hrow : Stb w [] (RdL (nth vs j).v (nth (nth a k).sl j)) := stb_row g2 (by omega)
        have hzq : ∀ b ∈ nth (nth a k).sl j, b.size ≤ 9223372036854775807 := fun b hb => by have := hz2 _ (nth_mem (by omega)) b hb; omega
        refine cw_skip (post_then (cw_seq (cw_block (cw_seq (cw_region (sr rfl rfl rfl ((q_move rfl rfl)) (sr rfl rfl rfl ((q_move rfl rfl)) ?_)))))))
        refine sr rfl rfl rfl ((q_indexN rfl rfl rfl (by exact fun w hw => Stb.cl (by assumption) hw) (by intro hc; omega))) ?_
        refine sr rfl rfl rfl ((q_fieldEl rfl rfl (by exact fun w hw => Stb.cl (by assumption) hw) (by intro hc; omega))) ?_
        refine sr rfl rfl rfl ((q_loadF rfl rfl rfl (by exact fun w hw => Stb.cl (by assumption) hw) (by intro hc; omega) rfl)) ?_
        refine sr rfl rfl rfl ((q_move rfl rfl)) ?_
        refine sr rfl rfl rfl ((q_indexN rfl rfl rfl (by exact fun w hw => Stb.cl (by assumption) hw) (by intro hc; omega))) ?_
        refine sr rfl rfl rfl ((q_loadEl rfl rfl rfl (by exact fun w hw => Stb.cl (by assumption) hw) (by intro hc; omega))) ?_
        refine sw_step rfl rfl rfl (q_call (CanCall.mk Tryz.call23) rfl (.cons rfl inferInstance (.cons rfl inferInstance (.nil))) (fun _ w hw => callq hw (refPhones_spec _ _ _ w (by exact stb_arg hw (by assumption)) (by assumption)))) ?_
        refine sr rfl rfl rfl ((q_not rfl rfl)) (sw_nil (post_then ?_))
        refine cw_cond rfl (fun h4 => ?_) (fun h4 => ?_)
        · skip
          have hf : foreignOk a = false := by
            cases hf : foreignOk a with
            | false => rfl
            | true =>
              exfalso
              have := (foreign_at hf hk').st j (by omega)
              rw [this] at h4; simp at h4
          refine cw_seq (cw_region (sr rfl rfl rfl ((q_assign rfl rfl)) (sw_nil (post_then (cw_ret (post_blk_r (post_then_r (post_then_r (post_blk_r (post_blk_r (post_then_r (post_then_r (post_blk_r (post_then_r (post_ret1 rfl (resOk_tmp rfl) ?_)))))))))))))))
          exact fun w' hw => ⟨by rw [hf], (fun w h => Cl.sel (by exact .nil _) w h) _ hw⟩
        · skip
          have h5 : phonesOk (nth (nth a k).sl j) 3 = true := by simpa using h4
          refine cw_skip (post_blk (post_then (cw_region (sr rfl rfl rfl ((q_move rfl rfl)) ?_))))
          refine sr rfl rfl rfl ((q_add rfl rfl rfl (by intro hc; omega))) ?_
          refine sr rfl rfl rfl ((q_assign rfl rfl)) (sw_nil ?_)
          exact post_next (j + 1) (by exact .cons rfl (.cons rfl (.cons rfl .nil))) (fun _ h => (fun w h => Cl.sel (by exact .nil _) w h) _ h) ⟨by omega, fun i hi => by
            rcases Nat.lt_or_ge i j with h6 | h6
            · exact hbj i h6
            · have : i = j := by omega
              subst this; exact h5⟩ (by omega)
      · skip
        have hj' : j = vs.length := by simp at h3; omega
        subst hj'
        have hAt : FgAt a k := by
          by_cases hk0 : 0 < k
          · rw [e1 hk0] at h2
            simp [hk0] at h2
            exact ⟨h2.1.1.1, fun _ => lt_of h2.1.1.2, by omega, by omega, fun i hi => hbj i (by omega)⟩
          · have hk1 : k = 0 := by omega
            subst hk1
            simp at h2
            exact ⟨h2.1.1, fun h0 => by omega, by omega, by omega, fun i hi => hbj i (by omega)⟩
        refine cw_exit (post_then_x (post_then_x (post_blk_eq (post_blk (post_then (cw_region (sr rfl rfl rfl ((q_move rfl rfl)) ?_)))))))
        refine sr rfl rfl rfl ((q_add rfl rfl rfl (by intro hc; omega))) ?_
        refine sr rfl rfl rfl ((q_assign rfl rfl)) (sw_nil ?_)
        exact post_next (k + 1) (by exact .cons rfl (.cons rfl .nil)) (fun _ h => (fun w h => Cl.sel (by exact .nil _) w h) _ h) ⟨by omega, fun i hi => by
          rcases Nat.lt_or_ge i k with h6 | h6
          · exact hbe i h6
          · have : i = k := by omega
            subst this; exact hAt⟩ (by omega)
  · skip
    have hk' : k = a.length := by simp at h; omega
    subst hk'
    have hf : decide ((a.length : Int) ≤ 200) = foreignOk a := by
      by_cases hl : a.length ≤ 200
      · rw [foreign_yes hbe hl]; simp; omega
      · have : foreignOk a = false := by unfold foreignOk; rw [decide_eq_false hl]; rfl
        rw [this]; simp; omega
    refine cw_exit (post_then_x (post_then_x (post_blk_eq (post_then (cw_seq (cw_region (sr rfl rfl rfl ((q_move rfl rfl)) ?_)))))))
    refine sr rfl rfl rfl ((q_len rfl (.cons rfl inferInstance (.nil)) (by exact fun w hw => Stb.cl (by assumption) hw))) ?_
    refine sr rfl rfl rfl ((q_leq rfl rfl rfl)) (sr rfl rfl rfl ((q_assign rfl rfl)) (sw_nil (post_then (cw_ret (post_ret1 rfl (resOk_tmp rfl) ?_)))))
    exact fun w' hw => ⟨by rw [hf], (fun w h => Cl.sel (by exact .nil _) w h) _ hw⟩
end Go.Proofs.YtkmbliojafefdaaGreatDoor

set_option autoImplicit false
set_option maxRecDepth 100000
namespace Go.Proofs.YtkmbliojafefdaaGreatDoor
open Go.Sx
open Enc (enc val)
def pickC (d : Int) (u : Fgn) : List ByteArray := nth u.sl (min d (u.sl.length : Int) - 1).toNat
def refF (d : Int) (p : ByteArray) (acc : List ByteArray) (u : Fgn) : List ByteArray := if u.phone = p then pickC d u else acc
theorem refF_no {d : Int} {p : ByteArray} : ∀ {a : List Fgn} {x : List ByteArray}, (∀ u ∈ a, u.phone ≠ p) → a.foldl (refF d p) x = x
  | [], _, _ => rfl
  | u :: a, x, h => by
    rw [List.foldl_cons]
    have : refF d p x u = x := by unfold refF; rw [if_neg (h u (.head _))]
    rw [this]
    exact refF_no fun v hv => h v (.tail _ hv)
theorem refF_is {a : List Fgn} {d : Int} {p : ByteArray} (h : foreignOk a = true) (hd : d ≠ 0) : a.foldl (refF d p) [p] = acF a d p := by
  have hr : riseB (fun x y : Fgn => cmpS x.phone y.phone) a = true := by
    unfold foreignOk at h
    simp only [Bool.and_eq_true] at h
    exact h.1.2
  have hasc := acc_asc hr
  by_cases hm : ∃ k, k < a.length ∧ (nth a k).phone = p
  · obtain ⟨k, hk, he⟩ := hm
    have hK : acK a p = k := by
      unfold acK
      refine lowB_at (by omega) (fun i hi => cmpS_neg.2 (by rw [← he]; exact hasc i k hi hk)) fun _ => ?_
      rw [he]; simp [cmpS]
    have hB : acB a p = true := by
      unfold acB
      rw [hK, he]; simp [hk, cmpS]
    have e : a = a.take k ++ nth a k :: a.drop (k + 1) := by
      conv => lhs; rw [← List.take_append_drop k a, List.drop_eq_getElem_cons hk]
      rw [nth_get hk]
    rw [e, List.foldl_append, List.foldl_cons, refF_no (a := a.drop (k + 1))]
    · unfold refF acF
      rw [← e, if_pos he, if_pos ⟨hB, hd⟩, hK]; rfl
    · intro u hu hup
      obtain ⟨i, hi, rfl⟩ := List.getElem_of_mem hu
      rw [List.length_drop] at hi
      rw [List.getElem_drop] at hup
      have h1 := hasc k (k + 1 + i) (by omega) (by omega)
      rw [nth_get (by omega : k + 1 + i < a.length), hup, he, sLt_irr] at h1
      cases h1
  · rw [refF_no (fun u hu hup => by
      obtain ⟨i, hi, rfl⟩ := List.getElem_of_mem hu
      exact hm ⟨i, hi, by rw [nth_get hi]; exact hup⟩)]
    unfold acF
    rw [if_neg]
    rintro ⟨hB, _⟩
    unfold acB at hB
    simp only [decide_eq_true_eq] at hB
    apply hm
    refine ⟨_, hB.1, ?_⟩
    have h2 := hB.2
    unfold cmpS at h2
    split at h2
    · assumption
    · split at h2 <;> simp at h2
theorem acF_zero (a : List Fgn) (p : ByteArray) : acF a 0 p = [p] := by unfold acF; rw [if_neg (fun h => h.2 rfl)]
theorem pick_len {a : List Fgn} {d : Int} (h : foreignOk a = true) {k : Nat} (hk : k < a.length) (hd : 1 ≤ d) : (min d ((nth a k).sl.length : Int) - 1).toNat < (nth a k).sl.length ∧ (pickC d (nth a k)).length ≤ 3 := by
  obtain ⟨_, _, h3, h4, h5⟩ := foreign_at h hk
  have h6 : (min d ((nth a k).sl.length : Int) - 1).toNat < (nth a k).sl.length := by omega
  refine ⟨h6, ?_⟩
  have := h5 _ h6
  unfold phonesOk at this
  simp only [Bool.and_eq_true, decide_eq_true_eq] at this
  unfold pickC; omega
theorem refAccent_spec (sa sl : SlV) (a : List Fgn) (l : List ByteArray) (d : Int) (hf : foreignOk a = true) (hl : l.length ≤ 1000) (hd : 0 ≤ d ∧ d ≤ 5) (w : World) (hs : Stb w [] (RdL sa.v a)) (hp : Stb w [] fun w' => ∀ u ∈ a, FgnIn u w') (hsl : Stb w [] (RdL sl.v l)) :
    Calls Tryz.prog 49 #[sa.v, sl.v, .int .i64 d] w fun e w' => ∃ r : SlV, e = .returned r.v ∧ True ∧ Cl w [] [ownL 9 r.v (accentC a l d)] w' := by
  have hLa := rd_len hs.here
  have hLl := rd_len hsl.here
  have hst : ∀ {k : Nat}, k < l.length → accentC a (l.take (k + 1)) d = accentC a (l.take k) d ++ acF a d (nth l k) := fun hk => take_flat (acF a d) hk
  have hb3 : ∀ p, (acF a d p).length ≤ 3 := fun p => by
    by_cases h0 : d = 0
    · subst h0; rw [acF_zero]; simp
    · unfold acF
      split
      · rename_i hh
        have hB := hh.1
        unfold acB at hB
        simp only [decide_eq_true_eq] at hB
        exact (pick_len hf hB.1 (by omega)).2
      · simp
  refine calls_cw (vs := [_, _, _]) Tryz.func49 rfl Tryz.ntmps49 rfl (Cl.start0 w) (cw_seq (cw_region (sr rfl rfl rfl ((q_assign rfl rfl)) (sw_nil (post_then (cw_seq (cw_region (sr rfl rfl rfl ((q_assign rfl rfl)) (sw_nil (post_then (cw_seq (cw_seq (cw_region (sr rfl rfl rfl ((q_assign rfl rfl)) (sw_nil (post_then (cw_block ?_)))))))))))))))))
  refine cw_loop (S := Nat × SlV) (fun y => [(0, [], sa.v), (1, [], sl.v), (2, [], .int .i64 d), (7, [], y.2.v), (8, [], .int .i64 y.1)]) (fun y => Cl w [] [ownL 9 y.2.v (accentC a (l.take y.1) d)]) (fun y => y.1 ≤ l.length) (fun y => l.length - y.1) (0, ⟨none, 0, 0⟩) (Nat.zero_le _) (by exact .cons rfl (.cons rfl (.cons rfl (.cons rfl (.cons rfl .nil))))) (fun w' h => Cl.addNil 9 h) ?_
  rintro ⟨i, so⟩ hi
  dsimp only at hi ⊢
  have hol := tflat_bd (acF a d) hb3 (l.take i)
  rw [List.length_take] at hol
  refine cw_seq (cw_seq (cw_region (sr rfl rfl rfl ((q_move rfl rfl)) (sr rfl rfl rfl ((q_move rfl rfl)) ?_))))
  refine sr rfl rfl rfl ((q_len rfl (.cons rfl inferInstance (.nil)) (by exact fun w hw => Stb.cl (by assumption) hw))) ?_
  refine sr rfl rfl rfl ((q_lss rfl rfl rfl)) (sw_nil (post_then ?_))
  refine cw_cond rfl (fun h => ?_) (fun h => ?_)
  · skip
    have hi' : i < l.length := by simp at h; omega
    obtain ⟨p, hpe⟩ : ∃ p, nth l i = p := ⟨_, rfl⟩
    have hst2 := hst hi'
    rw [hpe] at hst2
    refine cw_skip (post_then (cw_seq (cw_block (cw_seq (cw_region (sr rfl rfl rfl ((q_move rfl rfl)) (sr rfl rfl rfl ((q_move rfl rfl)) ?_)))))))
    refine sr rfl rfl rfl ((q_indexN rfl rfl rfl (by exact fun w hw => Stb.cl (by assumption) hw) (by intro hc; omega))) ?_
    refine sr rfl rfl rfl ((q_loadEl rfl rfl rfl (by exact fun w hw => Stb.cl (by assumption) hw) (by intro hc; omega))) ?_
    refine sw_x rfl rfl rfl (e_build1 (α := ByteArray) rfl rfl rfl rfl) (fun s21 => ?_)
    refine sr rfl rfl rfl ((q_assign rfl rfl)) (sw_nil (post_then (cw_seq (cw_seq (cw_region (sr rfl rfl rfl ((q_assign rfl rfl)) (sw_nil (post_then (cw_block ?_)))))))))
    rw [hpe]
    refine cw_loop (S := Nat × SlV × List ByteArray × List Asn) (fun y => [(0, [], sa.v), (1, [], sl.v), (2, [], .int .i64 d), (7, [], so.v), (8, [], .int .i64 i), (9, [], y.2.1.v), (10, [], .int .i64 y.1)]) (fun y => Cl w [] (ownL 9 so.v (accentC a (l.take i) d) :: y.2.2.2)) (fun y => y.1 ≤ a.length ∧ (0 < y.1 → 0 < d) ∧ y.2.2.1 = (a.take y.1).foldl (refF d p) [p] ∧ (∀ (H : List Asn) w', Cl w [] H w' → (∀ A ∈ y.2.2.2, A ∈ H) → Stb w' [] (RdL y.2.1.v y.2.2.1))) (fun y => a.length - y.1) (0, s21, [p], [ownL 9 s21.v [p]]) ⟨Nat.zero_le _, by simp, rfl, fun H w' h hm => stb_own h (hm _ (.head _))⟩ (by exact .cons rfl (.cons rfl (.cons rfl (.cons rfl (.cons rfl (.cons rfl (.cons rfl .nil))))))) (fun w' h => (fun w h => Cl.sel (by exact .take 1 rfl (.take 0 rfl (.nil _))) w h) _ h) ?_
    rintro ⟨k, s9, x, G⟩ ⟨hk, hkd, hx, hG⟩
    dsimp only at hk hkd hx hG ⊢
    refine cw_seq (cw_seq (cw_region (sr rfl rfl rfl ((q_move rfl rfl)) (sr rfl rfl rfl ((q_move rfl rfl)) ?_))))
    refine sr rfl rfl rfl ((q_len rfl (.cons rfl inferInstance (.nil)) (by exact fun w hw => Stb.cl (by assumption) hw))) ?_
    refine sr rfl rfl rfl ((q_lss rfl rfl rfl)) (sr rfl rfl rfl ((q_move rfl rfl)) (sr rfl rfl rfl ((q_move rfl rfl)) (sr rfl rfl rfl ((q_gtr rfl rfl rfl)) (sr rfl rfl rfl ((q_and2 rfl rfl rfl)) (sw_nil (post_then ?_))))))
    refine cw_cond rfl (fun h2 => ?_) (fun h2 => ?_)
    · skip
      have hk' : k < a.length ∧ 0 < d := by simp at h2; omega
      have hxm : nth a k ∈ a := nth_mem hk'.1
      obtain ⟨vs, g1, g2⟩ := hp.here _ hxm
      have g1 := rd_stb g1
      have g2 := rdR_stb g2
      have hvl := g2.here.1
      have hvL := rd_len g1.here
      obtain ⟨q1, q2⟩ := pick_len hf hk'.1 (by omega : 1 ≤ d)
      rw [← hvl] at q1
      have hfold := take_fold (refF d p) [p] hk'.1
      rw [← hx] at hfold
      refine cw_skip (post_then (cw_seq (cw_block (cw_seq ?_))))
      refine cw_region_q mixed_Tryz (by kernel_rfl) ?_
      refine qr rfl rfl rfl ((q_move rfl rfl)) (qr rfl rfl rfl ((q_move rfl rfl)) ?_)
      refine qr rfl rfl rfl ((q_indexN rfl rfl rfl (by exact fun w hw => Stb.cl (by assumption) hw) (by intro hc; omega))) ?_
      refine qr rfl rfl rfl ((q_fieldEl rfl rfl (by exact fun w hw => Stb.cl (by assumption) hw) (by intro hc; omega))) ?_
      refine qr rfl rfl rfl ((q_loadF rfl rfl rfl (by exact fun w hw => Stb.cl (by assumption) hw) (by intro hc; omega) rfl)) ?_
      refine qr rfl rfl rfl ((q_move rfl rfl)) (qr rfl rfl rfl ((q_move rfl rfl)) ?_)
      refine qr rfl rfl rfl ((q_indexN rfl rfl rfl (by exact fun w hw => Stb.cl (by assumption) hw) (by intro hc; omega))) ?_
      refine qr rfl rfl rfl ((q_loadEl rfl rfl rfl (by exact fun w hw => Stb.cl (by assumption) hw) (by intro hc; omega))) ?_
      refine qr rfl rfl rfl ((q_eqlStr rfl rfl rfl Tryz.underlying9)) (qw_end (post_then ?_))
      rw [hpe]
      refine cw_cond rfl (fun h3 => ?_) (fun h3 => ?_)
      · skip
        have h4 : (nth a k).phone = p := by simpa using h3
        have h5 : refF d p x (nth a k) = pickC d (nth a k) := by unfold refF; rw [if_pos h4]
        rw [h5] at hfold
        have hrow : Stb w [] (RdL (nth vs (min d (vs.length : Int) - 1).toNat).v (pickC d (nth a k))) := by
          unfold pickC; rw [← hvl]; exact stb_row g2 (by omega)
        refine cw_region_q mixed_Tryz (by kernel_rfl) ?_
        refine qr rfl rfl rfl ((q_move rfl rfl)) (qr rfl rfl rfl ((q_move rfl rfl)) ?_)
        refine qr rfl rfl rfl ((q_indexN rfl rfl rfl (by exact fun w hw => Stb.cl (by assumption) hw) (by intro hc; omega))) ?_
        refine qr rfl rfl rfl ((q_fieldEl rfl rfl (by exact fun w hw => Stb.cl (by assumption) hw) (by intro hc; omega))) ?_
        refine qr rfl rfl rfl ((q_loadF rfl rfl rfl (by exact fun w hw => Stb.cl (by assumption) hw) (by intro hc; omega) rfl)) ?_
        refine qr rfl rfl rfl ((q_move rfl rfl)) (qr rfl rfl rfl ((q_move rfl rfl)) (qr rfl rfl rfl ((q_move rfl rfl)) ?_))
        refine qr rfl rfl rfl ((q_indexN rfl rfl rfl (by exact fun w hw => Stb.cl (by assumption) hw) (by intro hc; omega))) ?_
        refine qr rfl rfl rfl ((q_fieldEl rfl rfl (by exact fun w hw => Stb.cl (by assumption) hw) (by intro hc; omega))) ?_
        refine qr rfl rfl rfl ((q_loadF rfl rfl rfl (by exact fun w hw => Stb.cl (by assumption) hw) (by intro hc; omega) rfl)) ?_
        refine qr rfl rfl rfl ((q_len rfl (.cons rfl inferInstance (.nil)) (by exact fun w hw => Stb.cl (by assumption) hw))) ?_
        refine qr rfl rfl rfl ((q_min rfl (.cons rfl inferInstance (.cons rfl inferInstance (.nil))))) ?_
        refine qr rfl rfl rfl ((q_sub rfl rfl rfl (by intro hc; omega))) ?_
        refine qr rfl rfl rfl ((q_index rfl rfl rfl (by exact fun w hw => Stb.cl (by assumption) hw) (by intro hc; omega))) ?_
        refine qr rfl rfl rfl ((q_loadEl rfl rfl rfl (by exact fun w hw => Stb.cl (by assumption) hw) (by intro hc; omega))) ?_
        refine qr rfl rfl rfl ((q_assign rfl rfl)) (qw_end (post_blk (post_then (cw_region (sr rfl rfl rfl ((q_move rfl rfl)) ?_)))))
        refine sr rfl rfl rfl ((q_add rfl rfl rfl (by intro hc; omega))) ?_
        refine sr rfl rfl rfl ((q_assign rfl rfl)) (sw_nil ?_)
        exact post_next (k + 1, nth vs (min d (vs.length : Int) - 1).toNat, pickC d (nth a k), []) (by exact .cons rfl (.cons rfl (.cons rfl (.cons rfl (.cons rfl (.cons rfl (.cons rfl .nil))))))) (fun w' h => (fun w h => Cl.sel (by exact .take 0 rfl (.nil _)) w h) _ h) ⟨by simp only; omega, fun _ => hk'.2, hfold.symm, fun H w' h _ => stb_arg h hrow⟩ (by simp only; omega)
      · skip
        have h4 : ¬ (nth a k).phone = p := by simpa using h3
        have h5 : refF d p x (nth a k) = x := by unfold refF; rw [if_neg h4]
        rw [h5] at hfold
        refine cw_skip (post_blk (post_then (cw_region (sr rfl rfl rfl ((q_move rfl rfl)) ?_))))
        refine sr rfl rfl rfl ((q_add rfl rfl rfl (by intro hc; omega))) ?_
        refine sr rfl rfl rfl ((q_assign rfl rfl)) (sw_nil ?_)
        exact post_next (k + 1, s9, x, G) (by exact .cons rfl (.cons rfl (.cons rfl (.cons rfl (.cons rfl (.cons rfl (.cons rfl .nil))))))) (fun w' h => h) ⟨by simp only; omega, fun _ => hk'.2, hfold.symm, hG⟩ (by simp only; omega)
    · skip
      have hxe : x = acF a d p := by
        by_cases h0 : d = 0
        · have hk0 : k = 0 := by omega
          subst hk0
          rw [hx, h0, acF_zero]; rfl
        · have hka : k = a.length := by simp at h2; omega
          rw [hx, hka, List.take_length]
          exact refF_is hf h0
      have hxl : x.length ≤ 3 := by rw [hxe]; exact hb3 p
      have hmem : ∀ (A : Asn), ∀ X ∈ G, X ∈ A :: G := fun A X hX => .tail _ hX
      refine cw_exit (post_then_x (post_then_x (post_blk_eq (post_then (cw_region (sr rfl rfl rfl ((q_move rfl rfl)) (sr rfl rfl rfl ((q_move rfl rfl)) ?_)))))))
      refine sw_x rfl rfl rfl (e_append (i := 0) (r := x) rfl (.cons rfl inferInstance (.cons rfl inferInstance (.nil))) rfl rfl (fun w1 h1 => (hG _ w1 h1 (hmem _)).here) (by unfold accentC at *; omega) rfl) (fun s60 => ?_)
      refine sr rfl rfl rfl ((q_assign rfl rfl)) (sw_nil (post_blk (post_then (cw_region (sr rfl rfl rfl ((q_move rfl rfl)) ?_)))))
      refine sr rfl rfl rfl ((q_add rfl rfl rfl (by intro hc; omega))) ?_
      refine sr rfl rfl rfl ((q_assign rfl rfl)) (sw_nil ?_)
      refine post_next (i + 1, s60) (by exact .cons rfl (.cons rfl (.cons rfl (.cons rfl (.cons rfl .nil))))) (fun w' h => ?_) (by simp only; omega) (by simp only; omega)
      simp only
      rw [hst2, ← hxe]
      exact (fun w h => Cl.sel (by exact .take 0 rfl (.nil _)) w h) _ h
  · skip
    have hi' : i = l.length := by simp at h; omega
    subst hi'
    rw [List.take_length]
    refine cw_exit (post_then_x (post_then_x (post_blk_eq (post_then (cw_seq (cw_region (sr rfl rfl rfl ((q_move rfl rfl)) (sr rfl rfl rfl ((q_assign rfl rfl)) (sw_nil (post_then (cw_ret (post_ret1 rfl (resOk_tmp rfl) ?_))))))))))))
    exact fun w' hw => ⟨so, rfl, trivial, hw⟩
end Go.Proofs.YtkmbliojafefdaaGreatDoor

set_option autoImplicit false
set_option maxRecDepth 100000
namespace Go.Proofs.YtkmbliojafefdaaGreatDoor
open Go.Sx
open Enc (enc val)
theorem accC_zero (a : List Fgn) : ∀ l : List ByteArray, accentC a l 0 = l
  | [] => rfl
  | p :: l => by
    have := accC_zero a l
    unfold accentC at this ⊢
    rw [List.flatMap_cons, this, acF_zero]; rfl
theorem accents_spec (sa sl : SlV) (a : List Fgn) (l : List ByteArray) (d : Int) (w : World) (hT : Stb w [] Tab) (hs : Stb w [] (RdL sa.v a)) (hp : Stb w [] fun w' => ∀ u ∈ a, FgnIn u w') (hsl : Stb w [] (RdL sl.v l)) :
    Calls Tryz.prog 10 #[sa.v, sl.v, .int .i64 d] w fun e w' => e = .returned (.bool true) ∧ Cl w [] [] w' := by
  have hLa := rd_len hs.here
  have hLl := rd_len hsl.here
  refine calls_cw (vs := [_, _, _]) Tryz.func10 rfl Tryz.ntmps10 rfl (Cl.start0 w) (cw_seq (cw_region (sr rfl rfl rfl ((q_assign rfl rfl)) (sw_nil (post_then (cw_seq (cw_seq (cw_region (sr rfl rfl rfl ((q_move rfl rfl)) ?_)))))))))
  refine sr rfl rfl rfl ((q_len rfl (.cons rfl inferInstance (.nil)) (by exact fun w hw => Stb.cl (by assumption) hw))) ?_
  refine sr rfl rfl rfl ((q_gtr rfl rfl rfl)) (sr rfl rfl rfl ((q_move rfl rfl)) (sr rfl rfl rfl ((q_move rfl rfl)) ?_))
  refine sr rfl rfl rfl ((q_len rfl (.cons rfl inferInstance (.nil)) (by exact fun w hw => Stb.cl (by assumption) hw))) ?_
  refine sr rfl rfl rfl ((q_leq rfl rfl rfl)) (sr rfl rfl rfl ((q_and2 rfl rfl rfl)) (sr rfl rfl rfl ((q_move rfl rfl)) (sr rfl rfl rfl ((q_move rfl rfl)) ?_)))
  refine sr rfl rfl rfl ((q_len rfl (.cons rfl inferInstance (.nil)) (by exact fun w hw => Stb.cl (by assumption) hw))) ?_
  refine sr rfl rfl rfl ((q_gtr rfl rfl rfl)) (sr rfl rfl rfl ((q_or2 rfl rfl rfl)) (sr rfl rfl rfl ((q_move rfl rfl)) (sr rfl rfl rfl ((q_move rfl rfl)) ?_)))
  refine sw_step rfl rfl rfl (q_call (CanCall.mk Tryz.call18) rfl (.cons rfl inferInstance (.cons rfl inferInstance (.nil))) (fun _ w hw => callq hw (lawPhones_spec _ _ _ (by omega) w (by exact stb_arg hw (by assumption))))) ?_
  refine sr rfl rfl rfl ((q_not rfl rfl)) (sr rfl rfl rfl ((q_or2 rfl rfl rfl)) (sw_nil (post_then ?_)))
  refine cw_cond rfl (fun h => ?_) (fun h => ?_)
  · skip
    refine cw_seq (cw_region ?_)
    refine sw_step rfl rfl rfl (q_call (CanCall.mk Tryz.call19) rfl (.nil) (fun _ w hw => callq hw (known_spec w (stb_arg hw (by assumption))))) ?_
    refine sr rfl rfl rfl ((q_assign rfl rfl)) (sw_nil (post_then (cw_ret (post_then_r (post_ret1 rfl (resOk_tmp rfl) ?_)))))
    exact fun w' hw => ⟨rfl, (fun w h => Cl.sel (by exact .nil _) w h) _ hw⟩
  · skip
    have hlp : lawPh l 130 = true := by
      cases hx : lawPh l 130 with
      | true => rfl
      | false => rw [hx] at h; simp at h
    have hll : l.length ≤ 130 ∧ ∀ b ∈ l, b.size ≤ 12 := by
      unfold lawPh at hlp
      simp only [Bool.and_eq_true, decide_eq_true_eq, List.all_eq_true] at hlp
      exact ⟨by omega, hlp.2⟩
    have hzl : ∀ b ∈ l, b.size ≤ 9223372036854775807 := fun b hb => by have := hll.2 b hb; omega
    refine cw_skip (post_then (cw_seq (cw_seq (cw_region (sr rfl rfl rfl ((q_assign rfl rfl)) (sw_nil (post_then (cw_block ?_))))))))
    refine cw_loop (S := Nat) (fun k => [(0, [], sa.v), (1, [], sl.v), (2, [], .int .i64 d), (7, [], .int .i64 k)]) (fun _ => Cl w [] []) (fun k => k ≤ a.length ∧ ∀ j, j < k → (nth a j).phone.size ≤ 1000 ∧ ∀ q ∈ (nth a j).sl, ∀ b ∈ q, b.size ≤ 1000) (fun k => a.length - k) 0 ⟨by omega, fun j hj => by omega⟩ (by exact .cons rfl (.cons rfl (.cons rfl (.cons rfl .nil)))) (fun w h => Cl.sel (by exact .nil _) w h) ?_
    rintro k ⟨hk, hbe⟩
    refine cw_seq (cw_seq (cw_region (sr rfl rfl rfl ((q_move rfl rfl)) (sr rfl rfl rfl ((q_move rfl rfl)) ?_))))
    refine sr rfl rfl rfl ((q_len rfl (.cons rfl inferInstance (.nil)) (by exact fun w hw => Stb.cl (by assumption) hw))) ?_
    refine sr rfl rfl rfl ((q_lss rfl rfl rfl)) (sw_nil (post_then ?_))
    refine cw_cond rfl (fun h2 => ?_) (fun h2 => ?_)
    · skip
      have hk' : k < a.length := by simp at h2; omega
      have hxm : nth a k ∈ a := nth_mem hk'
      obtain ⟨vs, g1, g2⟩ := hp.here _ hxm
      have g1 := rd_stb g1
      have g2 := rdR_stb g2
      have hvl := g2.here.1
      have hvL := rd_len g1.here
      refine cw_skip (post_then (cw_seq (cw_block (cw_seq (cw_seq (cw_region (sr rfl rfl rfl ((q_move rfl rfl)) (sr rfl rfl rfl ((q_move rfl rfl)) ?_))))))))
      refine sr rfl rfl rfl ((q_indexN rfl rfl rfl (by exact fun w hw => Stb.cl (by assumption) hw) (by intro hc; omega))) ?_
      refine sr rfl rfl rfl ((q_fieldEl rfl rfl (by exact fun w hw => Stb.cl (by assumption) hw) (by intro hc; omega))) ?_
      refine sr rfl rfl rfl ((q_loadF rfl rfl rfl (by exact fun w hw => Stb.cl (by assumption) hw) (by intro hc; omega) rfl)) ?_
      refine sr rfl rfl rfl ((q_lenS rfl (.cons rfl inferInstance (.nil)) Tryz.underlying9)) (sr rfl rfl rfl ((q_gtr rfl rfl rfl)) (sr rfl rfl rfl ((q_move rfl rfl)) (sr rfl rfl rfl ((q_move rfl rfl)) (sr rfl rfl rfl ((q_move rfl rfl)) ?_))))
      refine sr rfl rfl rfl ((q_indexN rfl rfl rfl (by exact fun w hw => Stb.cl (by assumption) hw) (by intro hc; omega))) ?_
      refine sr rfl rfl rfl ((q_fieldEl rfl rfl (by exact fun w hw => Stb.cl (by assumption) hw) (by intro hc; omega))) ?_
      refine sr rfl rfl rfl ((q_loadF rfl rfl rfl (by exact fun w hw => Stb.cl (by assumption) hw) (by intro hc; omega) rfl)) ?_
      refine sr rfl rfl rfl ((q_len rfl (.cons rfl inferInstance (.nil)) (by exact fun w hw => Stb.cl (by assumption) hw))) ?_
      refine sr rfl rfl rfl ((q_gtr rfl rfl rfl)) (sr rfl rfl rfl ((q_or2 rfl rfl rfl)) (sw_nil (post_then ?_)))
      refine cw_cond rfl (fun h3 => ?_) (fun h3 => ?_)
      · skip
        refine cw_seq (cw_region ?_)
        refine sw_step rfl rfl rfl (q_call (CanCall.mk Tryz.call19) rfl (.nil) (fun _ w hw => callq hw (known_spec w (stb_arg hw (by assumption))))) ?_
        refine sr rfl rfl rfl ((q_assign rfl rfl)) (sw_nil (post_then (cw_ret (post_then_r (post_blk_r (post_then_r (post_then_r (post_blk_r (post_then_r (post_ret1 rfl (resOk_tmp rfl) ?_))))))))))
        exact fun w' hw => ⟨rfl, (fun w h => Cl.sel (by exact .nil _) w h) _ hw⟩
      · skip
        have hps : (nth a k).phone.size ≤ 12 := by
          simp only [Bool.or_eq_false_iff, decide_eq_false_iff_not] at h3
          omega
        refine cw_skip (post_then (cw_seq (cw_region (sr rfl rfl rfl ((q_assign rfl rfl)) (sw_nil (post_then (cw_block ?_)))))))
        refine cw_loop (S := Nat) (fun j => [(0, [], sa.v), (1, [], sl.v), (2, [], .int .i64 d), (7, [], .int .i64 k), (8, [], .int .i64 j)]) (fun _ => Cl w [] []) (fun j => j ≤ vs.length ∧ ∀ i, i < j → ∀ b ∈ nth (nth a k).sl i, b.size ≤ 1000) (fun j => vs.length - j) 0 ⟨by omega, fun j hj => by omega⟩ (by exact .cons rfl (.cons rfl (.cons rfl (.cons rfl (.cons rfl .nil))))) (fun w h => Cl.sel (by exact .nil _) w h) ?_
        rintro j ⟨hj, hbj⟩
        refine cw_seq (cw_seq (cw_region (sr rfl rfl rfl ((q_move rfl rfl)) (sr rfl rfl rfl ((q_move rfl rfl)) (sr rfl rfl rfl ((q_move rfl rfl)) ?_)))))
        refine sr rfl rfl rfl ((q_indexN rfl rfl rfl (by exact fun w hw => Stb.cl (by assumption) hw) (by intro hc; omega))) ?_
        refine sr rfl rfl rfl ((q_fieldEl rfl rfl (by exact fun w hw => Stb.cl (by assumption) hw) (by intro hc; omega))) ?_
        refine sr rfl rfl rfl ((q_loadF rfl rfl rfl (by exact fun w hw => Stb.cl (by assumption) hw) (by intro hc; omega) rfl)) ?_
        refine sr rfl rfl rfl ((q_len rfl (.cons rfl inferInstance (.nil)) (by exact fun w hw => Stb.cl (by assumption) hw))) ?_
        refine sr rfl rfl rfl ((q_lss rfl rfl rfl)) (sw_nil (post_then ?_))
        refine cw_cond rfl (fun h4 => ?_) (fun h4 => ?_)
        · skip
          have hj' : j < vs.length := by simp at h4; omega
          have hrow : Stb w [] (RdL (nth vs j).v (nth (nth a k).sl j)) := stb_row g2 (by omega)
          refine cw_skip (post_then (cw_seq (cw_block (cw_seq (cw_region (sr rfl rfl rfl ((q_move rfl rfl)) (sr rfl rfl rfl ((q_move rfl rfl)) ?_)))))))
          refine sr rfl rfl rfl ((q_indexN rfl rfl rfl (by exact fun w hw => Stb.cl (by assumption) hw) (by intro hc; omega))) ?_
          refine sr rfl rfl rfl ((q_fieldEl rfl rfl (by exact fun w hw => Stb.cl (by assumption) hw) (by intro hc; omega))) ?_
          refine sr rfl rfl rfl ((q_loadF rfl rfl rfl (by exact fun w hw => Stb.cl (by assumption) hw) (by intro hc; omega) rfl)) ?_
          refine sr rfl rfl rfl ((q_move rfl rfl)) ?_
          refine sr rfl rfl rfl ((q_indexN rfl rfl rfl (by exact fun w hw => Stb.cl (by assumption) hw) (by intro hc; omega))) ?_
          refine sr rfl rfl rfl ((q_loadEl rfl rfl rfl (by exact fun w hw => Stb.cl (by assumption) hw) (by intro hc; omega))) ?_
          refine sw_step rfl rfl rfl (q_call (CanCall.mk Tryz.call18) rfl (.cons rfl inferInstance (.cons rfl inferInstance (.nil))) (fun _ w hw => callq hw (lawPhones_spec _ _ _ (by omega) w (by exact stb_arg hw (by assumption))))) ?_
          refine sr rfl rfl rfl ((q_not rfl rfl)) (sw_nil (post_then ?_))
          refine cw_cond rfl (fun h5 => ?_) (fun h5 => ?_)
          · skip
            refine cw_seq (cw_region ?_)
            refine sw_step rfl rfl rfl (q_call (CanCall.mk Tryz.call19) rfl (.nil) (fun _ w hw => callq hw (known_spec w (stb_arg hw (by assumption))))) ?_
            refine sr rfl rfl rfl ((q_assign rfl rfl)) (sw_nil (post_then (cw_ret (post_blk_r (post_then_r (post_then_r (post_blk_r (post_blk_r (post_then_r (post_then_r (post_blk_r (post_then_r (post_ret1 rfl (resOk_tmp rfl) ?_)))))))))))))
            exact fun w' hw => ⟨rfl, (fun w h => Cl.sel (by exact .nil _) w h) _ hw⟩
          · skip
            have hq : lawPh (nth (nth a k).sl j) 5 = true := by simpa using h5
            have hq2 : ∀ b ∈ nth (nth a k).sl j, b.size ≤ 12 := by
              unfold lawPh at hq
              simp only [Bool.and_eq_true, decide_eq_true_eq, List.all_eq_true] at hq
              exact hq.2
            refine cw_skip (post_blk (post_then (cw_region (sr rfl rfl rfl ((q_move rfl rfl)) ?_))))
            refine sr rfl rfl rfl ((q_add rfl rfl rfl (by intro hc; omega))) ?_
            refine sr rfl rfl rfl ((q_assign rfl rfl)) (sw_nil ?_)
            exact post_next (j + 1) (by exact .cons rfl (.cons rfl (.cons rfl (.cons rfl (.cons rfl .nil))))) (fun w h => Cl.sel (by exact .nil _) w h) ⟨by omega, fun i hi => by
              rcases Nat.lt_or_ge i j with h6 | h6
              · exact hbj i h6
              · have : i = j := by omega
                subst this; exact fun b hb => by have := hq2 b hb; omega⟩ (by omega)
        · skip
          have hj' : j = vs.length := by simp at h4; omega
          subst hj'
          refine cw_exit (post_then_x (post_then_x (post_blk_eq (post_blk (post_then (cw_region (sr rfl rfl rfl ((q_move rfl rfl)) ?_)))))))
          refine sr rfl rfl rfl ((q_add rfl rfl rfl (by intro hc; omega))) ?_
          refine sr rfl rfl rfl ((q_assign rfl rfl)) (sw_nil ?_)
          refine post_next (k + 1) (by exact .cons rfl (.cons rfl (.cons rfl (.cons rfl .nil)))) (fun w h => Cl.sel (by exact .nil _) w h) ⟨by omega, fun i hi => ?_⟩ (by omega)
          rcases Nat.lt_or_ge i k with h6 | h6
          · exact hbe i h6
          · have : i = k := by omega
            subst this
            refine ⟨by omega, fun q hq b hb => ?_⟩
            obtain ⟨m, hm, rfl⟩ := List.getElem_of_mem hq
            exact hbj m (by omega) b (by rw [nth_get hm]; exact hb)
    · skip
      have hk' : k = a.length := by simp at h2; omega
      subst hk'
      have hz : ∀ x ∈ a, x.phone.size ≤ 1000 ∧ ∀ q ∈ x.sl, ∀ b ∈ q, b.size ≤ 1000 := fun x hx => by
        obtain ⟨m, hm, rfl⟩ := List.getElem_of_mem hx
        have := hbe m hm
        rwa [nth_get hm] at this
      refine cw_exit (post_then_x (post_then_x (post_blk_eq (post_then (cw_seq (cw_region (sr rfl rfl rfl ((q_move rfl rfl)) (sr rfl rfl rfl ((q_move rfl rfl)) (sr rfl rfl rfl ((q_move rfl rfl)) ?_)))))))))
      refine sw_x rfl rfl rfl (e_call (CanCall.mk Tryz.call47) rfl (.cons rfl inferInstance (.cons rfl inferInstance (.cons rfl inferInstance (.nil)))) (fun w1 hw => accent_spec sa sl a l d w1 (stb_arg hw hs) (stb_arg hw hp) (stb_arg hw hsl))) (fun s81 => ?_)
      refine sw_imp fun _ => (sr rfl rfl rfl ((q_move rfl rfl)) (sr rfl rfl rfl ((q_extract rfl rfl rfl)) (sr rfl rfl rfl ((q_extract rfl rfl rfl)) (sr rfl rfl rfl ((q_assign rfl rfl)) (sr rfl rfl rfl ((q_assign rfl rfl)) (sw_nil (post_then (cw_seq (cw_seq (cw_region (sr rfl rfl rfl ((q_move rfl rfl)) (sw_step rfl rfl rfl (q_call (CanCall.mk Tryz.call48) rfl (.cons rfl inferInstance (.nil)) (fun _ w1 hw => callq hw (refForeign_spec _ a hz w1 (stb_arg hw hs) (stb_arg hw hp)))) (sr rfl rfl rfl ((q_not rfl rfl)) (sr rfl rfl rfl ((q_move rfl rfl)) (sr rfl rfl rfl ((q_move rfl rfl)) ?_)))))))))))))))
      refine sw_step rfl rfl rfl (q_call (CanCall.mk Tryz.call23) rfl (.cons rfl inferInstance (.cons rfl inferInstance (.nil))) (fun _ w hw => callq hw (refPhones_spec _ _ _ w (by exact stb_arg hw (by assumption)) (by assumption)))) ?_
      refine sr rfl rfl rfl ((q_not rfl rfl)) (sr rfl rfl rfl ((q_or2 rfl rfl rfl)) (sr rfl rfl rfl ((q_move rfl rfl)) (sr rfl rfl rfl ((q_move rfl rfl)) (sr rfl rfl rfl ((q_lss rfl rfl rfl)) (sr rfl rfl rfl ((q_or2 rfl rfl rfl)) (sr rfl rfl rfl ((q_move rfl rfl)) (sr rfl rfl rfl ((q_move rfl rfl)) (sr rfl rfl rfl ((q_gtr rfl rfl rfl)) (sr rfl rfl rfl ((q_or2 rfl rfl rfl)) (sw_nil (post_then ?_)))))))))))
      have hEd : accentE a l d = if foreignOk a && phonesOk l 120 && decide (0 ≤ d) && decide (d ≤ 5) then (if 120 < (accentC a l d).length then 4 else 0) else 2 := rfl
      refine cw_cond rfl (fun h7 => ?_) (fun h7 => ?_)
      · skip
        have e1 : accentE a l d = 2 := by
          rw [hEd, if_neg]
          intro hc
          simp only [Bool.and_eq_true, decide_eq_true_eq] at hc
          obtain ⟨⟨⟨c1, c2⟩, c3⟩, c4⟩ := hc
          rw [c1, c2] at h7
          simp at h7; omega
        have e2 : accentR a l d = [] := by unfold accentR; rw [if_neg (by rw [e1]; decide)]
        rw [e1, e2]
        refine cw_seq (cw_region (sr rfl rfl rfl ((q_move rfl rfl)) (sr rfl rfl rfl ((q_eql rfl rfl rfl)) (sr rfl rfl rfl ((q_move rfl rfl)) (sr rfl rfl rfl ((q_move rfl rfl)) ?_)))))
        refine sr rfl rfl rfl ((q_len rfl (.cons rfl inferInstance (.nil)) (by exact fun w hw => rd_own hw (by exact .head _)))) ?_
        refine sr rfl rfl rfl ((q_eql rfl rfl rfl)) (sr rfl rfl rfl ((q_and2 rfl rfl rfl)) (sr rfl rfl rfl ((q_move rfl rfl)) ?_))
        refine sw_step rfl rfl rfl (q_call (CanCall.mk Tryz.call19) rfl (.nil) (fun _ w hw => callq hw (known_spec w (stb_arg hw (by assumption))))) ?_
        refine sr rfl rfl rfl ((q_and2 rfl rfl rfl)) (sr rfl rfl rfl ((q_assign rfl rfl)) (sw_nil (post_then (cw_ret (post_then_r (post_ret1 rfl (resOk_tmp rfl) ?_))))))
        exact fun w' hw => ⟨rfl, (fun w h => Cl.sel (by exact .nil _) w h) _ hw⟩
      · skip
        have hc : foreignOk a = true ∧ phonesOk l 120 = true ∧ 0 ≤ d ∧ d ≤ 5 := by
          simp only [Bool.or_eq_false_iff, Bool.not_eq_false', decide_eq_false_iff_not] at h7
          exact ⟨h7.1.1.1, h7.1.1.2, by omega, by omega⟩
        obtain ⟨c1, c2, c3, c4⟩ := hc
        have hE2 : accentE a l d = if 120 < (accentC a l d).length then 4 else 0 := by
          rw [hEd, if_pos (by rw [c1, c2]; simp; omega)]
        have hl120 : l.length ≤ 120 := by unfold phonesOk at c2; simp at c2; omega
        refine cw_skip (post_then (cw_seq (cw_region (sr rfl rfl rfl ((q_move rfl rfl)) (sr rfl rfl rfl ((q_move rfl rfl)) (sr rfl rfl rfl ((q_move rfl rfl)) ?_))))))
        refine sw_x rfl rfl rfl (e_call (CanCall.mk Tryz.call49) rfl (.cons rfl inferInstance (.cons rfl inferInstance (.cons rfl inferInstance (.nil)))) (fun w1 hw => refAccent_spec sa sl a l d c1 (by omega) ⟨c3, c4⟩ w1 (stb_arg hw hs) (stb_arg hw hp) (stb_arg hw hsl))) (fun s113 => ?_)
        refine sw_imp fun _ => (sr rfl rfl rfl ((q_assign rfl rfl)) (sw_nil (post_then (cw_seq (cw_seq (cw_region (sr rfl rfl rfl ((q_move rfl rfl)) ?_)))))))
        refine sr rfl rfl rfl ((q_len rfl (.cons rfl inferInstance (.nil)) (by exact fun w hw => rd_own hw (by exact .head _)))) ?_
        refine sr rfl rfl rfl ((q_gtr rfl rfl rfl)) (sw_nil (post_then ?_))
        refine cw_cond rfl (fun h8 => ?_) (fun h8 => ?_)
        · skip
          have e1 : accentE a l d = 4 := by rw [hE2, if_pos (by simp at h8; omega)]
          have e2 : accentR a l d = [] := by unfold accentR; rw [if_neg (by rw [e1]; decide)]
          rw [e1, e2]
          refine cw_seq (cw_region (sr rfl rfl rfl ((q_move rfl rfl)) (sr rfl rfl rfl ((q_eql rfl rfl rfl)) (sr rfl rfl rfl ((q_move rfl rfl)) (sr rfl rfl rfl ((q_move rfl rfl)) ?_)))))
          refine sr rfl rfl rfl ((q_len rfl (.cons rfl inferInstance (.nil)) (by exact fun w hw => rd_own hw (by exact .tail _ (.head _))))) ?_
          refine sr rfl rfl rfl ((q_eql rfl rfl rfl)) (sr rfl rfl rfl ((q_and2 rfl rfl rfl)) (sr rfl rfl rfl ((q_move rfl rfl)) ?_))
          refine sw_step rfl rfl rfl (q_call (CanCall.mk Tryz.call19) rfl (.nil) (fun _ w hw => callq hw (known_spec w (stb_arg hw (by assumption))))) ?_
          refine sr rfl rfl rfl ((q_and2 rfl rfl rfl)) (sr rfl rfl rfl ((q_assign rfl rfl)) (sw_nil (post_then (cw_ret (post_then_r (post_ret1 rfl (resOk_tmp rfl) ?_))))))
          exact fun w' hw => ⟨rfl, (fun w h => Cl.sel (by exact .nil _) w h) _ hw⟩
        · skip
          have e1 : accentE a l d = 0 := by rw [hE2, if_neg (by simp at h8; omega)]
          have e2 : accentR a l d = accentC a l d := by unfold accentR; rw [if_pos e1]
          have z1 : accentE a l 0 = 0 := by
            show (if _ then _ else _) = _
            rw [accC_zero, if_pos (by rw [c1, c2]; rfl), if_neg (by omega)]
          have z2 : accentR a l 0 = l := by unfold accentR; rw [if_pos z1, accC_zero]
          rw [e1, e2]
          refine cw_skip (post_then (cw_seq (cw_seq (cw_region (sr rfl rfl rfl ((q_move rfl rfl)) (sr rfl rfl rfl ((q_neq rfl rfl rfl)) (sr rfl rfl rfl ((q_move rfl rfl)) (sr rfl rfl rfl ((q_move rfl rfl)) (sr rfl rfl rfl ((q_move rfl rfl)) ?_)))))))))
          refine sw_step rfl rfl rfl (q_call (CanCall.mk Tryz.call38) rfl (.cons rfl inferInstance (.cons rfl inferInstance (.nil))) (fun _ w hw => callq hw (order_spec _ _ _ _ w (by exact stb_own hw (by exact .tail _ (.head _))) (by exact stb_own hw (by exact .head _))))) ?_
          refine sr rfl rfl rfl ((q_neq rfl rfl rfl)) (sr rfl rfl rfl ((q_or2 rfl rfl rfl)) (sw_nil (post_then ?_)))
          rw [ord_self]
          refine cw_cond rfl (fun h9 => ?_) (fun h9 => ?_)
          · skip
            simp at h9
          · skip
            refine cw_skip (post_then (cw_seq (cw_region (sr rfl rfl rfl ((q_move rfl rfl)) (sr rfl rfl rfl ((q_move rfl rfl)) ?_)))))
            refine sw_x rfl rfl rfl (e_call (CanCall.mk Tryz.call47) rfl (.cons rfl inferInstance (.cons rfl inferInstance (.cons rfl inferInstance (.nil)))) (fun w1 hw => accent_spec sa sl a l 0 w1 (stb_arg hw hs) (stb_arg hw hp) (stb_arg hw hsl))) (fun s138 => ?_)
            refine sw_imp fun _ => ?_
            rw [z1, z2]
            refine sr rfl rfl rfl ((q_move rfl rfl)) (sr rfl rfl rfl ((q_extract rfl rfl rfl)) (sr rfl rfl rfl ((q_extract rfl rfl rfl)) (sr rfl rfl rfl ((q_assign rfl rfl)) (sr rfl rfl rfl ((q_assign rfl rfl)) (sw_nil (post_then (cw_seq (cw_region (sr rfl rfl rfl ((q_move rfl rfl)) (sr rfl rfl rfl ((q_eql rfl rfl rfl)) (sr rfl rfl rfl ((q_move rfl rfl)) (sr rfl rfl rfl ((q_move rfl rfl)) (sr rfl rfl rfl ((q_move rfl rfl)) ?_)))))))))))))
            refine sw_step rfl rfl rfl (q_call (CanCall.mk Tryz.call38) rfl (.cons rfl inferInstance (.cons rfl inferInstance (.nil))) (fun _ w hw => callq hw (order_spec _ _ _ _ w (by exact stb_own hw (by exact .head _)) (by exact stb_arg hw (by assumption))))) ?_
            refine sr rfl rfl rfl ((q_eql rfl rfl rfl)) (sr rfl rfl rfl ((q_and2 rfl rfl rfl)) (sr rfl rfl rfl ((q_move rfl rfl)) ?_))
            refine sw_step rfl rfl rfl (q_call (CanCall.mk Tryz.call19) rfl (.nil) (fun _ w hw => callq hw (known_spec w (stb_arg hw (by assumption))))) ?_
            refine sr rfl rfl rfl ((q_and2 rfl rfl rfl)) (sr rfl rfl rfl ((q_assign rfl rfl)) (sw_nil (post_then (cw_ret (post_ret1 rfl (resOk_tmp rfl) ?_)))))
            refine fun w' hw => ⟨?_, (fun w h => Cl.sel (by exact .nil _) w h) _ hw⟩
            rw [ord_self]; rfl
end Go.Proofs.YtkmbliojafefdaaGreatDoor

/-
  What came in, opened by its type: cells and what they read as, whatever the shape. General lemmas, no program text.
-/
set_option autoImplicit false
set_option linter.unusedSectionVars false
namespace Go.Sx
open Go.ChangeShapes Go.WideShapes Go.ChangeAt Go.RowKit Go.WideElems
/-- A value of type t that came in: its cells are those of some x; it reads as some y. -/
class Deep (P : Program) (t : TypeId) (α β : outParam Type) [Enc α] where
  rd : α → β → World → Prop
  keep : ∀ {a : α} {b : β} {w w' : World}, rd a b w → Chg [] w w' → rd a b w'
  opens : ∀ {H : Type} {enc : TypeId × Value → H} {w : World} {sp : Nat → Bool} {fuel : Nat} {cs : List Value} {x : DataW H × List MemPlace}, DataW.trod enc P w 0 sp true fuel t cs = some x → ∃ a b, cs = Enc.enc a ∧ rd a b w
  vals : ∀ {w : World} {r : Reach} {b0 : Nat} {v : Value} {a : α}, Value.okWide P w r b0 t v → v.cells = (Enc.enc a).toArray → v = Enc.val a
theorem open_deep {P : Program} {t : TypeId} {α β : Type} [Enc α] [hD : Deep P t α β] {H : Type} {enc : TypeId × Value → H} {W : World} {r : Reach} {b0 : Nat} {v : Value} {d : DataW H} {ps : List MemPlace}
    (hval : Value.okWide P W r b0 t v) (hd : DataW.Trod enc P W 0 (fun _ => true) true t v d ps) : ∃ (a : α) (b : β), v = Enc.val a ∧ Stb W [] (hD.rd a b) := by
  obtain ⟨fuel, hf⟩ := hd
  obtain ⟨a, b, hc, hr⟩ := hD.opens hf
  exact ⟨a, b, hD.vals hval (by rw [← hc]), ⟨fun w' k => hD.keep hr k⟩⟩
/-- int -/
@[reducible] def deepInt {P : Program} {t : TypeId} (ht : P.underlying t = some (.int .i64)) : Deep P t Int Int where
  rd a b _ := a = b ∧ -9223372036854775808 ≤ b ∧ b ≤ 9223372036854775807
  keep h _ := h
  opens h := by
    obtain ⟨n, h1, _, hw⟩ := DataW.trod_int ht h
    refine ⟨n, n, h1, rfl, ?_⟩
    have e1 : IntKind.i64.min = -9223372036854775808 := by decide
    have e2 : IntKind.i64.max = 9223372036854775807 := by decide
    simp [Lit.wf, e1, e2] at hw
    omega
  vals hv hc := by
    obtain ⟨n, rfl⟩ := okWide_int ht hv
    simpa [Value.cells, Enc.enc, Enc.val] using hc
@[reducible] def deepBool {P : Program} {t : TypeId} (ht : P.underlying t = some .bool) : Deep P t Bool Bool where
  rd a b _ := a = b
  keep h _ := h
  opens h := by
    obtain ⟨n, h1, _⟩ := DataW.trod_bool ht h
    exact ⟨n, n, h1, rfl⟩
  vals hv hc := by
    obtain ⟨n, rfl⟩ := okWide_bool ht hv
    simpa [Value.cells, Enc.enc, Enc.val] using hc
@[reducible] def deepString {P : Program} {t : TypeId} (ht : P.underlying t = some .string) : Deep P t ByteArray ByteArray where
  rd a b _ := a = b ∧ b.size ≤ maxLen
  keep h _ := h
  opens h := by
    obtain ⟨n, h1, _, hw⟩ := DataW.trod_string ht h
    exact ⟨n, n, h1, rfl, hw⟩
  vals hv hc := by
    obtain ⟨n, rfl⟩ := okWide_string ht hv
    simpa [Value.cells, Enc.enc, Enc.val] using hc
/-- Slices. -/
def rdSl {α β : Type} [Enc α] (rd : α → β → World → Prop) (s : SlV) (l : List β) (w : World) : Prop :=
  ∃ ls : List α, RdL s.v ls w ∧ ls.length = l.length ∧ ∀ (i : Nat) (a : α) (b : β), ls[i]? = some a → l[i]? = some b → rd a b w
theorem rdSl_flat {α : Type} [Enc α] {rd : α → α → World → Prop} (hf : ∀ a b w, rd a b w → a = b) {s : SlV} {l : List α} {w : World} (h : rdSl rd s l w) : RdL s.v l w := by
  obtain ⟨ls, h1, h2, h3⟩ := h
  have : ls = l := by
    refine List.ext_getElem h2 fun i hi hj => ?_
    exact hf _ _ _ (h3 i _ _ (List.getElem?_eq_getElem hi) (List.getElem?_eq_getElem hj))
  rw [← this]; exact h1
theorem stb_flat {α : Type} [Enc α] {rd : α → α → World → Prop} (hf : ∀ a b w, rd a b w → a = b) {s : SlV} {l : List α} {w : World} {fp : List Nat} (h : Stb w fp (rdSl rd s l)) : Stb w fp (RdL s.v l) := ⟨fun w' k => rdSl_flat hf (h.stb w' k)⟩
theorem rdSl_mem {α β : Type} [Enc α] {rd : α → β → World → Prop} {p : β → Prop} (hf : ∀ a b w, rd a b w → p b) {s : SlV} {l : List β} {w : World} (h : rdSl rd s l w) : ∀ b ∈ l, p b := by
  obtain ⟨ls, h1, h2, h3⟩ := h
  intro b hb
  obtain ⟨i, hi, rfl⟩ := List.getElem_of_mem hb
  exact hf _ _ _ (h3 i _ _ (List.getElem?_eq_getElem (by omega)) (List.getElem?_eq_getElem hi))
theorem pick {α : Type} {n : Nat} {p : Nat → α → Prop} (h : ∀ i, i < n → ∃ a, p i a) : ∃ l : List α, l.length = n ∧ ∀ i a, l[i]? = some a → p i a := by
  induction n with
  | zero => exact ⟨[], rfl, fun i a h => by simp at h⟩
  | succ n ih =>
    obtain ⟨l, hl, hp⟩ := ih fun i hi => h i (by omega)
    obtain ⟨a, ha⟩ := h n (by omega)
    refine ⟨l ++ [a], by simp [hl], fun i b hb => ?_⟩
    by_cases hi : i < n
    · rw [List.getElem?_append_left (by omega)] at hb; exact hp i b hb
    · by_cases hi' : i = n
      · subst hi'
        rw [List.getElem?_append_right (by omega), hl] at hb
        simp at hb; subst hb; exact ha
      · rw [List.getElem?_eq_none (by simp; omega)] at hb; cases hb
/-- A row of cells as the memory holds it. -/
theorem cells_at {w : World} {base : Nat} {a : Addr} {n : Nat} {cs : List Value} (h : w.cells? base a n = some cs) : cs.length = n ∧ ∀ j v, cs[j]? = some v → w.cell? (a.add j) = some v := by
  unfold World.cells? at h
  split at h
  · have hl := mapM_some_length h
    rw [List.length_range] at hl
    refine ⟨hl, fun j v hj => ?_⟩
    have hlt := (List.getElem?_eq_some_iff.1 hj).1
    have := mapM_some_get h j j (List.getElem?_range (by omega))
    rw [this, hj]
  · cases h
@[reducible] def deepSlice {P : Program} {t e : TypeId} {α β : Type} [Enc α] (ht : P.underlying t = some (.slice e)) (hc : P.cellsOf e = Enc.sz α) [hD : Deep P e α β] : Deep P t SlV (List β) where
  rd := rdSl hD.rd
  keep := fun ⟨ls, h1, h2, h3⟩ k => ⟨ls, (rd_stb h1).stb _ k, h2, fun i a b ha hb => hD.keep (h3 i a b ha hb) k⟩
  opens {H enc w sp fuel cs x} h := by
    rcases DataW.trod_slice ht h with ⟨rfl, _⟩ | ⟨a, len, cap, elems, rest, n, _, rfl, _, _, hl, hm, hlen, hel, _, _⟩
    · exact ⟨⟨none, 0, 0⟩, [], rfl, [], ⟨none, 0, 0, rfl, rfl, Nat.le_refl _, by simp [maxLen], fun i x j v hx => by simp at hx⟩, rfl, fun i a b h => by simp at h⟩
    · have key : ∀ i, i < len → ∃ y : α × β, (∀ j v, (Enc.enc y.1)[j]? = some v → w.cell? ((a.add (i * Enc.sz α)).add j) = some v) ∧ hD.rd y.1 y.2 w := by
        intro i hi
        have h1 := hel i hi
        rw [hc] at h1
        have h2 : ∃ z, elems[i]? = some z := ⟨_, List.getElem?_eq_getElem (by omega)⟩
        obtain ⟨z, hz⟩ := h2
        rw [hz, Option.bind_eq_some_iff] at h1
        obtain ⟨cs', hcs, hy⟩ := h1
        obtain ⟨x, y, hx, hr⟩ := hD.opens hy
        refine ⟨(x, y), fun j v hj => ?_, hr⟩
        rw [← hx] at hj
        exact (cells_at hcs).2 j v hj
      obtain ⟨l, hl2, hp⟩ := pick key
      refine ⟨⟨some a, len, cap⟩, l.map (·.2), rfl, l.map (·.1), ⟨some a, len, cap, rfl, by simpa using hl2, hl, hm, fun i x j v hx hv => ⟨a, rfl, ?_⟩⟩, by simp, fun i x y hx hy => ?_⟩
      · rw [List.getElem?_map, Option.map_eq_some_iff] at hx
        obtain ⟨z, hz, rfl⟩ := hx
        have := (hp i z hz).1 j v hv
        rw [addr_add_assoc] at this
        exact this
      · rw [List.getElem?_map, Option.map_eq_some_iff] at hx hy
        obtain ⟨z, hz, rfl⟩ := hx
        obtain ⟨z', hz', rfl⟩ := hy
        rw [hz] at hz'; cases hz'
        exact (hp i z hz).2
  vals hv hc' := by
    obtain ⟨a0, len, cap, rfl⟩ := okWide_slice ht hv
    rename_i a
    simpa [Value.cells, Enc.enc, Enc.val] using hc'
/-- A field of a struct. -/
theorem trod_fld {P : Program} {t : TypeId} {fs : Array Field} {H : Type} {enc : TypeId × Value → H} {w : World} {sp : Nat → Bool} {fuel : Nat} {cs : List Value} {x : DataW H × List MemPlace} (ht : P.underlying t = some (.struct fs))
    (h : DataW.trod enc P w 0 sp true fuel t cs = some x) (i : Nat) {f : Field} (hf : fs[i]? = some f) {ty off c : Nat} (e1 : f.type = ty) (e2 : f.offset = off) (e3 : P.cellsOf ty = c) : ∃ n y, DataW.trod enc P w 0 sp true n ty ((cs.drop off).take c) = some y := by
  subst e1 e2 e3
  obtain ⟨xs, n, _, _, _, hl, hx⟩ := DataW.trod_struct ht h
  have := hx i f hf
  have hi := (Array.getElem?_eq_some_iff.1 hf).1
  rw [List.getElem?_eq_getElem (by omega)] at this
  exact ⟨n, _, this⟩
theorem trod_len {P : Program} {t : TypeId} {fs : Array Field} {H : Type} {enc : TypeId × Value → H} {w : World} {sp : Nat → Bool} {fuel : Nat} {cs : List Value} {x : DataW H × List MemPlace} (ht : P.underlying t = some (.struct fs))
    (h : DataW.trod enc P w 0 sp true fuel t cs = some x) : cs.length = P.cellsOf t := by
  obtain ⟨xs, n, _, _, h1, _⟩ := DataW.trod_struct ht h
  exact h1
theorem vals_struct {P : Program} {t : TypeId} {fs : Array Field} {α : Type} [Enc α] (ht : P.underlying t = some (.struct fs)) (hv : ∀ a : α, Enc.val a = .agg (Enc.enc a).toArray) {w : World} {r : Reach} {b0 : Nat} {v : Value} {a : α} (hok : Value.okWide P w r b0 t v) (hc : v.cells = (Enc.enc a).toArray) : v = Enc.val a := by
  obtain ⟨cs, rfl, _⟩ := okWide_struct ht hok
  rw [hv]
  simp [Value.cells] at hc
  rw [hc]
end Go.Sx

set_option autoImplicit false
set_option maxRecDepth 100000
namespace Go.Proofs.YtkmbliojafefdaaGreatDoor
open Go.Sx
instance : Deep Tryz.prog 3 Int Int := deepInt Tryz.underlying3
instance : Deep Tryz.prog 9 ByteArray ByteArray := deepString Tryz.underlying9
theorem cells9 : Tryz.prog.cellsOf 9 = 1 := by kernel_rfl
theorem cells27 : Tryz.prog.cellsOf 27 = 1 := by kernel_rfl
instance dL : Deep Tryz.prog 23 SlV (List ByteArray) := deepSlice Tryz.underlying23 (by kernel_rfl)
instance dLL : Deep Tryz.prog 27 SlV (List (List ByteArray)) := deepSlice Tryz.underlying27 (by kernel_rfl)
theorem rdSl_all {α β : Type} [Enc α] {rd : α → β → World → Prop} {p : β → World → Prop} (hf : ∀ a b w, rd a b w → p b w) {s : SlV} {l : List β} {w : World} (h : rdSl rd s l w) : ∀ b ∈ l, p b w := by
  obtain ⟨ls, h1, h2, h3⟩ := h
  intro b hb
  obtain ⟨i, hi, rfl⟩ := List.getElem_of_mem hb
  exact hf _ _ _ (h3 i _ _ (List.getElem?_eq_getElem (by omega)) (List.getElem?_eq_getElem hi))
theorem rdSl_rr {s : SlV} {l : List (List ByteArray)} {w : World} {rd : ByteArray → ByteArray → World → Prop} (hf : ∀ a b w, rd a b w → a = b) (h : rdSl (rdSl rd) s l w) : RdRR s.v l w := by
  obtain ⟨vs, h1, h2, h3⟩ := h
  exact ⟨vs, h1, h2, fun i hi => rdSl_flat hf (h3 i _ _ (nth_some (by omega)) (nth_some hi))⟩
structure FgIn' (u : Fgn) (w : World) : Prop where
  size : u.phone.size ≤ maxLen
  s : FgnIn u w
instance dFgn : Deep Tryz.prog 87 Fgn Fgn where
  rd a b w := a = b ∧ FgIn' b w
  keep := fun ⟨h1, h2⟩ k => ⟨h1, h2.size, (rdrr_stb h2.s).stb _ k⟩
  opens {H enc w sp fuel cs x} h := by
    have hl := trod_len Tryz.underlying87 h
    obtain ⟨_, _, h0⟩ := trod_fld Tryz.underlying87 h 0 rfl rfl rfl cells9
    obtain ⟨_, _, h1⟩ := trod_fld Tryz.underlying87 h 1 rfl rfl rfl cells27
    obtain ⟨x0, _, e0, rfl, z0⟩ := (deepString Tryz.underlying9).opens h0
    obtain ⟨x1, l1, e1, r1⟩ := dLL.opens h1
    rw [show Tryz.prog.cellsOf 87 = 2 by kernel_rfl] at hl
    match cs, hl with
    | [c0, c1], _ =>
    simp [Enc.enc] at e0 e1
    subst e0 e1
    exact ⟨⟨x0, x1, l1⟩, _, rfl, rfl, z0, rdSl_rr (fun a b w h => h.1) r1⟩
  vals := vals_struct Tryz.underlying87 fun _ => rfl
instance : Deep Tryz.prog 85 SlV (List Fgn) := deepSlice Tryz.underlying85 (by kernel_rfl)
theorem fgn_all {W : World} {fp : List Nat} {s : SlV} {l : List Fgn} (h : Stb W fp (rdSl (fun a b w => a = b ∧ FgIn' b w) s l)) : Stb W fp fun w' => ∀ u ∈ l, FgnIn u w' := ⟨fun w' k => rdSl_all (fun _ _ _ h => h.2.s) (h.stb w' k)⟩
/-- The tables, out of what the row lists. -/
theorem tab_of {W : World} {laid : List (String × DataW Unit)} (hL : laidMetH Tryz.prog laid W) : True := trivial
end Go.Proofs.YtkmbliojafefdaaGreatDoor

set_option autoImplicit false
namespace Go.Proofs.YtkmbliojafefdaaGreatDoor.letterAccents
open Go.ChangeShapes Go.WideShapes Go.ChangeAt Go.RowKit Go.Sx
theorem own : ownKnob Tryz.prog.godebug = none := by kernel_rfl
theorem laid : laidOutB Tryz.prog = true := by kernel_rfl
theorem rowed : ∀ t ∈ Tryz.f10.params.toList, Tryz.prog.readableRec t = true ∧ t < Tryz.prog.types.size := by
  rw [Tryz.params10]
  intro t ht
  change t ∈ [85, 23, 3] at ht
  simp only [List.mem_cons, List.not_mem_nil, or_false] at ht
  rcases ht with rfl | rfl | rfl <;> exact ⟨by kernel_rfl, of_decide_eq_true (by kernel_rfl)⟩
set_option maxHeartbeats 1000000 in
set_option maxRecDepth 100000 in
theorem lifted (os : Os) (started : os.Started) (H : Type) (enc : TypeId × Value → H) :
    ReturnsInHanded {} Tryz.checked os 10 .any (fun w args => (Rows.letterAccentsSpec.pre enc Tryz.prog Tryz.f10 Rows.letterAccentsRow.domain false w args ∧ laidMetH Tryz.prog Rows.letterAccentsRow.laid w) ∧ sizedMet enc Tryz.prog Tryz.f10 (OpenSpec.ofChange Rows.letterAccentsSpec) false w args)
      (Rows.letterAccentsSpec.post enc Tryz.prog Tryz.f10 false true false false) := by
  refine returnsInHanded_of_change_and (C := Tryz.checked) (X := fun w _ => laidMetH Tryz.prog Rows.letterAccentsRow.laid w) (fun _ _ _ hh h => h.of_heap hh) own started (by kernel_rfl) Tryz.func10
    (ChangeSpec.witness_shaped (enc := enc) (C := Tryz.checked) (os := os) (X := fun w _ => laidMetH Tryz.prog Rows.letterAccentsRow.laid w) false (World.laidAll Tryz.prog os Rows.letterAccentsRow.laid) #[.slice none 0 0, .slice none 0 0, .int .i64 0] 8 (World.laidAll_os _ _ _)
      (World.shaped_of_ZipB (by kernel_rfl) (by kernel_rfl)) (by kernel_rfl) (by kernel_rfl) (by kernel_rfl)
      (by rw [MakeChecks.laidMetH_plain _ _ _ (by kernel_rfl)]; exact laidMet_laidAll _ (by kernel_rfl) (by kernel_rfl))) ?_
  intro W base args ds gs before hval0 hW hcnd _ hL _
  have hval : ∀ (j : Nat) t v, Tryz.f10.params[j]? = some t → args[j]? = some v → Value.okWide Tryz.prog W .any base t v := hval0
  have hW' := hW
  have hlt := hW.lt
  obtain ⟨p, q, hA0, hV, rfl, hfz, hnd⟩ := hW
  have hA : DataW.TrodAll enc Tryz.prog W 0 (fun _ => true) true Tryz.f10.params.toList args.toList ds p := hA0
  have hkeep := fun (W' : World) (hb : Below W.heap.size W W') (sp : Nat → Bool) (hsp : ∀ x ∈ p, sp x.block = true) => trodAll_keep laid hb sp rowed hA (fun x hx => hlt x (by simp [hx])) hsp
  rw [Tryz.params10] at hA hval
  obtain ⟨v0, vs0, d0, ds0, p0, q0, hargs, rfl, rfl, h0, r0⟩ := trodAll_cons hA
  obtain ⟨v1, vs1, d1, ds1, p1, q1, rfl, rfl, rfl, h1, r1⟩ := trodAll_cons r0
  obtain ⟨v2, vs2, d2, ds2, p2, q2, rfl, rfl, rfl, h2, r2⟩ := trodAll_cons r1
  obtain ⟨rfl, rfl, rfl⟩ := trodAll_nil r2
  obtain rfl : args = #[v0, v1, v2] := by cases args; simp_all
  obtain ⟨rfl, rfl⟩ := trodVars_none hV
  obtain ⟨a0, b0, rfl, k0⟩ := open_deep (hval 0 85 v0 rfl rfl) h0
  obtain ⟨a1, b1, rfl, k1⟩ := open_deep (hval 1 23 v1 rfl rfl) h1
  have k1 := stb_flat (fun a b w h => h.1) k1
  obtain ⟨a2, b2, rfl, k2⟩ := open_deep (hval 2 3 v2 rfl rfl) h2
  obtain ⟨rfl, w2⟩ := k2.here
  clear hA0 hval0
  rw [MakeChecks.laidMetH_plain _ _ _ (by kernel_rfl)] at hL
  have hT : Stb W [] Tab := tab_stb (utf8Tabs_of_readsT (U8Types.of196 Tryz.lays196) ⟨by kernel_rfl, by kernel_rfl, by kernel_rfl, by kernel_rfl, by kernel_rfl, by kernel_rfl, by kernel_rfl⟩ (Pinned.utf8First_eq ▸ Lib.laidMet.reads hL (.tail _ (.head _))) (Lib.laidMet.reads hL (.head _)))
  refine (accents_spec a0 a1 b0 b1 a2 W hT (stb_flat (fun a b w h => h.1) k0) (fgn_all k0) k1).mono fun e W' ⟨he, hc⟩ => ?_
  subst he
  have hb := below_of hc
  exact ⟨_, rfl, _, _, _, [], _, [], hW', trodAll_cons_mk (shut_bool Tryz.underlying4 _) trodAll_mk0, hkeep W' hb _ (fun x hx => by simpa using hlt x (by simpa using hx)), rfl, hb.frame _, fun h => by cases h⟩
end Go.Proofs.YtkmbliojafefdaaGreatDoor.letterAccents

set_option autoImplicit false
namespace Go.Proofs.YtkmbliojafefdaaGreatDoor.letterAccents
open Go.Sx
set_option maxHeartbeats 0 in
theorem closed : joinedFacts Tryz.prog 10 Tryz.f10 Rows.letterAccentsSpec Rows.letterAccentsRow = true := by
  unfold joinedFacts
  simp only [Bool.and_eq_true]
  repeat' apply And.intro
  all_goals (as_aux_lemma => kernel_rfl)
end Go.Proofs.YtkmbliojafefdaaGreatDoor.letterAccents

set_option autoImplicit false
namespace Go.Proofs.YtkmbliojafefdaaGreatDoor.letterAccents
open Go.Sx
theorem named : Tryz.prog.funcNamed "declaim/declaimlaw03.LetterAccents" = some 10 := by kernel_rfl
theorem inst : Tryz.f10.isInstance Tryz.prog Rows.letterAccentsRow.origin Rows.letterAccentsRow.targs := of_decide_eq_true (by kernel_rfl)
theorem wrap : Tryz.f10.isWrapper Tryz.prog Rows.letterAccentsRow.wrapper Rows.letterAccentsRow.mainSum := by unfold Func.isWrapper; first | (rw [if_pos (by decide +kernel)]; kernel_rfl) | (rw [if_neg (by decide +kernel)]; exact ⟨rfl, rfl⟩)
theorem over : Rows.letterAccentsRow.holds Tryz.pinned (OpenSpec.ofChange Rows.letterAccentsSpec) :=
  OpenClaim.holds_of_wide 10 Tryz.f10 rfl rfl rfl rfl rfl rfl rfl ⟨rfl, rfl, rfl, rfl, rfl⟩ rfl rfl rfl rfl rfl named Tryz.func10 closed inst wrap
    (fun os started H enc _ => lifted os started H enc)
end Go.Proofs.YtkmbliojafefdaaGreatDoor.letterAccents

set_option autoImplicit false
namespace Go.Proofs.YtkmbliojafefdaaGreatDoor.letterAccents
theorem wft : Rows.letterAccentsRow.wfByText (OpenSpec.ofChange Rows.letterAccentsSpec) = true := by kernel_rfl
theorem main_is : Tryz.prog.mainIs = some (true, ("d8be659bf8d5b02a094a7902d1429b48723caac21f6c6de879e48704ff2af7b1" : String).toList) := by kernel_rfl
theorem looks_no : false = Tryz.prog.looks [] := by kernel_rfl
theorem goes_by : false = Rows.letterAccentsRow.goesBy Tryz.prog := by kernel_rfl
theorem stand_no : ([85, 23, 3].all fun u => !Tryz.prog.wantsStandIn u) = true := by kernel_rfl
end Go.Proofs.YtkmbliojafefdaaGreatDoor.letterAccents
