import Derived.Test.YtkmbliojafefdaaGreatDoorWB5
import Derived.Lib.LaidU8T
import Derived.PinnedBridge

set_option autoImplicit false
set_option linter.unusedSimpArgs false
set_option linter.unusedVariables false
set_option maxRecDepth 100000
namespace Go.Proofs.YtkmbliojafefdaaGreatDoor
open Go.Sx
open Enc (enc val)
theorem rdrr_two {H : List Asn} {w0 w : World} {fp : List Nat} {s a b : SlV} {l m : List ByteArray} {e e' : TypeId} (h : Cl w0 fp H w) (hs : ownL e s.v [a, b] ∈ H) (ha : ownL e' a.v l ∈ H) (hb : ownL e' b.v m ∈ H) : Stb w [] (RdRR s.v [l, m]) :=
 ⟨fun w' k => ⟨[a, b], (stb_own h hs).stb w' k, rfl, fun i hi => by
   match i, hi with
   | 0, _ => exact (stb_own h ha).stb w' k
   | 1, _ => exact (stb_own h hb).stb w' k⟩⟩
theorem ex_size (s1 s2 s3 : SlV) : ∀ u ∈ exL s1 s2 s3, u.word.size ≤ 1000000 := fun u hu => by
 simp only [exL, List.mem_cons, List.not_mem_nil, or_false] at hu
 rcases hu with rfl | rfl | rfl <;> exact Nat.le_of_ble_eq_true rfl
theorem jnt_one {H : List Asn} {w0 w : World} {fp : List Nat} {s t v : SlV} {a b c : List ByteArray} {e : TypeId} (h : Cl w0 fp H w) (hs : ownL e s.v a ∈ H) (ht : ownL e t.v b ∈ H) (hv : ownL e v.v c ∈ H) : Stb w [] fun w' => ∀ u ∈ [(⟨⟨none, 0, 0⟩, s, t, v, [], a, b, c⟩ : Jnt)], JntIn u w' :=
 ⟨fun w' k u hu => by
   simp only [List.mem_cons, List.not_mem_nil, or_false] at hu
   subst hu
   exact ⟨rd_nil0 w', (stb_own h hs).stb w' k, (stb_own h ht).stb w' k, (stb_own h hv).stb w' k⟩⟩
theorem fgn_one {H : List Asn} {w0 w : World} {fp : List Nat} {ph : ByteArray} {s a b : SlV} {l m : List ByteArray} {e e' : TypeId} (h : Cl w0 fp H w) (hs : ownL e s.v [a, b] ∈ H) (ha : ownL e' a.v l ∈ H) (hb : ownL e' b.v m ∈ H) : Stb w [] fun w' => ∀ u ∈ [(⟨ph, s, [l, m]⟩ : Fgn)], FgnIn u w' :=
 ⟨fun w' k u hu => by
   simp only [List.mem_cons, List.not_mem_nil, or_false] at hu
   subst hu
   exact (rdrr_two h hs ha hb).stb w' k⟩
theorem rdr_two {H : List Asn} {w0 w : World} {fp : List Nat} {a b : SlV} {l m : List ByteArray} {e' : TypeId} (h : Cl w0 fp H w) (ha : ownL e' a.v l ∈ H) (hb : ownL e' b.v m ∈ H) : Stb w [] (RdR [a, b] [l, m]) :=
 ⟨fun w' k => ⟨rfl, fun i hi => by
   match i, hi with
   | 0, _ => exact (stb_own h ha).stb w' k
   | 1, _ => exact (stb_own h hb).stb w' k⟩⟩
theorem rdr_three {H : List Asn} {w0 w : World} {fp : List Nat} {a b : SlV} {l m : List ByteArray} {e' : TypeId} (h : Cl w0 fp H w) (ha : ownL e' a.v l ∈ H) (hb : ownL e' b.v m ∈ H) : Stb w [] (RdR [a, b, ⟨none, 0, 0⟩] [l, m, []]) :=
 ⟨fun w' k => ⟨rfl, fun i hi => by
   match i, hi with
   | 0, _ => exact (stb_own h ha).stb w' k
   | 1, _ => exact (stb_own h hb).stb w' k
   | 2, _ => exact rd_nil0 w'⟩⟩
theorem ord_self : ∀ l : List ByteArray, ordL l l = 0
 | [] => rfl
 | x :: l => by simp [ordL, ord_self l]
theorem known_spec (w : World) (hT : Stb w [] Tab) : Calls Tryz.prog 19 #[] w fun e w' => e = .returned (.bool true) ∧ Cl w [] [] w' := by
 refine calls_cw (vs := []) Tryz.func19 rfl Tryz.ntmps19 rfl (Cl.start0 w) (zr (za rfl (nP (cw_seq (cw_region ?_)))))
 refine sw_x rfl rfl rfl (e_call (CanCall.mk Tryz.call59) rfl (.nil) (fun w1 hw => example_spec w1)) (fun y15 => ?_)
 refine sw_imp fun _ => (zm rfl (zS rfl (q_extract rfl rfl rfl) (zS rfl (q_extract rfl rfl rfl) (za rfl (za rfl (nP (zr (zm rfl ?_))))))))
 refine sw_x rfl rfl rfl (e_buildL (α := ByteArray) (l := [⟨#[101, 105]⟩, ⟨#[116]⟩]) rfl (.k rfl (.k rfl (.nil))) rfl rfl rfl rfl) (fun s20 => ?_)
 refine sw_x rfl rfl rfl (e_call (CanCall.mk Tryz.call20) rfl (.k rfl (.k rfl (.k rfl (.nil)))) (fun w1 hw => align_spec y15.b s20 (exP y15.t1 y15.t2 y15.t3 y15.t4 y15.t5 y15.t6) ⟨#[97, 116, 101]⟩ [⟨#[101, 105]⟩, ⟨#[116]⟩] (by decide) w1 (stb_arg hw hT) ((stb_frz (R := ExR y15.a y15.b y15.s1 y15.s2 y15.s3 y15.t1 y15.t2 y15.t3 y15.t4 y15.t5 y15.t6) hw (by exact .tail _ (.head _))).mono fun _ h => h.2.1) ((stb_frz (R := ExR y15.a y15.b y15.s1 y15.s2 y15.s3 y15.t1 y15.t2 y15.t3 y15.t4 y15.t5 y15.t6) hw (by exact .tail _ (.head _))).mono fun _ h => h.2.2) (stb_own hw (by exact .head _)))) (fun x21 => ?_)
 refine sw_imp fun _ => ?_
 rw [ex_alignN, ex_alignE, ex_alignP]
 refine zm rfl (zS rfl (q_extract rfl rfl rfl) (zS rfl (q_extract rfl rfl rfl) (zS rfl (q_extract rfl rfl rfl) (za rfl (za rfl (za rfl (nP (zr (zm rfl (zm rfl (zS rfl (q_build rfl (.k rfl (.k rfl (.k rfl (.nil)))) rfl) ?_)))))))))))
 refine sw_x rfl rfl rfl (e_call (CanCall.mk Tryz.call29) rfl (.k rfl (.k rfl (.k rfl (.nil)))) (fun w1 hw => learn_spec y15.a y15.b (exL y15.s1 y15.s2 y15.s3) (exP y15.t1 y15.t2 y15.t3 y15.t4 y15.t5 y15.t6) ⟨2, 1, 10⟩ (ex_size _ _ _) (fun _ => by rw [ex_abc]; decide) w1 (stb_arg hw hT) ((stb_frz (R := ExR y15.a y15.b y15.s1 y15.s2 y15.s3 y15.t1 y15.t2 y15.t3 y15.t4 y15.t5 y15.t6) hw (by exact .tail _ (.tail _ (.head _)))).mono fun _ h => h.1.1) ((stb_frz (R := ExR y15.a y15.b y15.s1 y15.s2 y15.s3 y15.t1 y15.t2 y15.t3 y15.t4 y15.t5 y15.t6) hw (by exact .tail _ (.tail _ (.head _)))).mono fun _ h => h.1.2) ((stb_frz (R := ExR y15.a y15.b y15.s1 y15.s2 y15.s3 y15.t1 y15.t2 y15.t3 y15.t4 y15.t5 y15.t6) hw (by exact .tail _ (.tail _ (.head _)))).mono fun _ h => h.2.1) ((stb_frz (R := ExR y15.a y15.b y15.s1 y15.s2 y15.s3 y15.t1 y15.t2 y15.t3 y15.t4 y15.t5 y15.t6) hw (by exact .tail _ (.tail _ (.head _)))).mono fun _ h => h.2.2))) (fun b29 => ?_)
 refine sw_imp fun hb => ?_
 rw [ex_optE]
 rw [ex_learn] at hb
 obtain ⟨bsl, bl⟩ := b29
 obtain ⟨bk, hbk⟩ := ex_shape hb
 simp only at hbk
 subst hbk
 refine zm rfl (zS rfl (q_extract rfl rfl rfl) (zS rfl (q_extract rfl rfl rfl) ?_))
 refine sw_x rfl rfl rfl (e_alloc rfl) (fun b6 => ?_)
 refine sw_eff0 rfl rfl (e_store (i := 0) rfl rfl rfl rfl rfl rfl rfl rfl) (za rfl (nP (zr ?_)))
 refine zS rfl (q_loadA rfl rfl (by exact .head _) rfl) ?_
 refine sw_x rfl rfl rfl (e_call (CanCall.mk Tryz.call37) rfl (.k rfl (.k rfl (.nil))) (fun w1 hw => say_spec ⟨bsl, exBl bk⟩ ⟨#[99, 97, 116]⟩ (by decide) w1 (stb_arg hw hT) (stb_frz (R := BkIn ⟨bsl, exBl bk⟩) hw (by exact .tail _ (.head _))))) (fun s33 => ?_)
 refine sw_imp fun _ => ?_
 dsimp only
 rw [ex_sayE]
 obtain ⟨sq3, hsr⟩ : ∃ sq3, sayR (exBl bk) ⟨#[99, 97, 116]⟩ = sq3 := ⟨_, rfl⟩
 have hsr1 : sq3.map (·.phone) = [⟨#[107]⟩, ⟨#[97]⟩, ⟨#[116]⟩] := by rw [← hsr]; exact ex_sayR bk
 have hsr2 : sq3.length = 3 := by rw [← hsr]; exact ex_sayL bk
 rw [hsr]
 refine zm rfl (zS rfl (q_extract rfl rfl rfl) (zS rfl (q_extract rfl rfl rfl) (za rfl (za rfl (nP (zr ?_))))))
 refine sw_x rfl rfl rfl (e_build1 (α := ByteArray) rfl rfl rfl rfl) (fun s38 => ?_)
 refine sw_x rfl rfl rfl (e_build1 (α := ByteArray) rfl rfl rfl rfl) (fun s39 => ?_)
 refine sw_x rfl rfl rfl (e_build1 (α := ByteArray) rfl rfl rfl rfl) (fun s40 => ?_)
 refine zS rfl (q_build rfl (.k rfl (.k rfl (.k rfl (.nil)))) rfl) ?_
 refine sw_x rfl rfl rfl (e_buildL (α := Jnt) (l := [⟨⟨none, 0, 0⟩, s38, s39, s40, [], [⟨#[97]⟩], [⟨#[122]⟩], [⟨#[97]⟩]⟩]) rfl (.k rfl (.nil)) rfl rfl rfl rfl) (fun s42 => ?_)
 refine sw_x rfl rfl rfl (e_buildL (α := ByteArray) (l := [⟨#[108]⟩, ⟨#[101]⟩]) rfl (.k rfl (.k rfl (.nil))) rfl rfl rfl rfl) (fun s43 => ?_)
 refine sw_x rfl rfl rfl (e_buildL (α := ByteArray) (l := [⟨#[97]⟩, ⟨#[109]⟩, ⟨#[105]⟩]) rfl (.k rfl (.k rfl (.k rfl (.nil)))) rfl rfl rfl rfl) (fun s44 => ?_)
 refine sw_x rfl rfl rfl (e_buildL (α := SlV) (l := [s43, s44]) rfl (.k rfl (.k rfl (.nil))) rfl rfl rfl rfl) (fun s45 => ?_)
 refine sw_x rfl rfl rfl (e_call (CanCall.mk Tryz.call46) rfl (.k rfl (.k rfl (.nil))) (fun w1 hw => join_spec s42 s45 [⟨⟨none, 0, 0⟩, s38, s39, s40, [], [⟨#[97]⟩], [⟨#[122]⟩], [⟨#[97]⟩]⟩] [[⟨#[108]⟩, ⟨#[101]⟩], [⟨#[97]⟩, ⟨#[109]⟩, ⟨#[105]⟩]] w1 (stb_own hw (by exact .tail _ (.tail _ (.tail _ (.head _))))) (jnt_one hw (by exact .tail _ (.tail _ (.tail _ (.tail _ (.tail _ (.tail _ (.head _))))))) (by exact .tail _ (.tail _ (.tail _ (.tail _ (.tail _ (.head _)))))) (by exact .tail _ (.tail _ (.tail _ (.tail _ (.head _)))))) (rdrr_two hw (by exact .head _) (by exact .tail _ (.tail _ (.head _))) (by exact .tail _ (.head _))))) (fun x46 => ?_)
 refine sw_imp fun _ => ?_
 rw [ex_joinE, ex_joinR]
 refine zm rfl (zS rfl (q_extract rfl rfl rfl) (zS rfl (q_extract rfl rfl rfl) (za rfl (za rfl (nP (zr ?_))))))
 refine sw_x rfl rfl rfl (e_build1 (α := ByteArray) rfl rfl rfl rfl) (fun s50 => ?_)
 refine sw_x rfl rfl rfl (e_buildL (α := ByteArray) (l := [⟨#[82]⟩, ⟨#[120]⟩]) rfl (.k rfl (.k rfl (.nil))) rfl rfl rfl rfl) (fun s51 => ?_)
 refine sw_x rfl rfl rfl (e_buildL (α := SlV) (l := [s50, s51]) rfl (.k rfl (.k rfl (.nil))) rfl rfl rfl rfl) (fun s52 => ?_)
 refine zS rfl (q_build rfl (.k rfl (.k rfl (.nil))) rfl) ?_
 refine sw_x rfl rfl rfl (e_buildL (α := Fgn) (l := [⟨⟨#[114]⟩, s52, [[⟨#[82]⟩], [⟨#[82]⟩, ⟨#[120]⟩]]⟩]) rfl (.k rfl (.nil)) rfl rfl rfl rfl) (fun s54 => ?_)
 refine sw_x rfl rfl rfl (e_buildL (α := ByteArray) (l := [⟨#[114]⟩, ⟨#[97]⟩, ⟨#[114]⟩]) rfl (.k rfl (.k rfl (.k rfl (.nil)))) rfl rfl rfl rfl) (fun s55 => ?_)
 refine sw_x rfl rfl rfl (e_call (CanCall.mk Tryz.call47) rfl (.k rfl (.k rfl (.k rfl (.nil)))) (fun w1 hw => accent_spec s54 s55 [⟨⟨#[114]⟩, s52, [[⟨#[82]⟩], [⟨#[82]⟩, ⟨#[120]⟩]]⟩] [⟨#[114]⟩, ⟨#[97]⟩, ⟨#[114]⟩] 5 w1 (stb_own hw (by exact .tail _ (.head _))) (fgn_one hw (by exact .tail _ (.tail _ (.head _))) (by exact .tail _ (.tail _ (.tail _ (.tail _ (.head _))))) (by exact .tail _ (.tail _ (.tail _ (.head _))))) (stb_own hw (by exact .head _)))) (fun s56 => ?_)
 refine sw_imp fun _ => ?_
 rw [ex_accE, ex_accR]
 refine zm rfl (zS rfl (q_extract rfl rfl rfl) (zS rfl (q_extract rfl rfl rfl) (za rfl (za rfl (nP (cw_seq (zr (sw_reb0 (w0 := w) (fp := []) (F := [blk b6 [bsl.v] 45, Sx.frz (BkIn ⟨bsl, exBl bk⟩), Sx.frz (RdRR x21.v ([[⟨#[101, 105]⟩], [⟨#[116]⟩], []] : List (List ByteArray))), ownL 136 s33.v sq3, Sx.frz (RdRR x46.v ([[⟨#[108]⟩, ⟨#[101]⟩, ⟨#[122]⟩], [⟨#[97]⟩, ⟨#[109]⟩, ⟨#[105]⟩]] : List (List ByteArray))), ownL 9 s56.v ([⟨#[82]⟩, ⟨#[120]⟩, ⟨#[97]⟩, ⟨#[82]⟩, ⟨#[120]⟩] : List ByteArray)]) (fun w h => Cl.sel (.take 15 rfl (.take 15 rfl (.take 15 rfl (.take 14 rfl (.take 6 rfl (.take 0 rfl (.nil _))))))) w h) fun w1 hr => ?_))))))))
 have h6 := hr.blk (b := b6) (cells := [bsl.v]) (t := 45) (by exact .head _)
 have hB := (hr.frz (R := BkIn ⟨bsl, exBl bk⟩) (by exact .tail _ (.head _))).here
 have hB1 := rd_stb hB.1
 have hB2 := hB.2 _ (List.Mem.head _)
 have hB3 := rd_stb hB2.1
 have hB4 := rd_stb (hB2.2 _ (List.Mem.head _)).1
 obtain ⟨v1, g1, g2⟩ := (hr.frz (R := RdRR x21.v ([[⟨#[101, 105]⟩], [⟨#[116]⟩], []] : List (List ByteArray))) (by exact .tail _ (.tail _ (.head _)))).here
 have g1 := rd_stb g1
 have g2 := rdR_stb g2
 have hS := hr.own (e := 136) (sv := s33.v) (l := sq3) (by exact .tail _ (.tail _ (.tail _ (.head _))))
 obtain ⟨v2, k1, k2⟩ := (hr.frz (R := RdRR x46.v ([[⟨#[108]⟩, ⟨#[101]⟩, ⟨#[122]⟩], [⟨#[97]⟩, ⟨#[109]⟩, ⟨#[105]⟩]] : List (List ByteArray))) (by exact .tail _ (.tail _ (.tail _ (.tail _ (.head _)))))).here
 have k1 := rd_stb k1
 have k2 := rdR_stb k2
 have hlb : (exBl bk).length = 4 := rfl
 have hA := hr.own (e := 9) (sv := s56.v) (l := ([⟨#[82]⟩, ⟨#[120]⟩, ⟨#[97]⟩, ⟨#[82]⟩, ⟨#[120]⟩] : List ByteArray)) (by exact .tail _ (.tail _ (.tail _ (.tail _ (.tail _ (.head _))))))
 refine zm rfl (zS rfl (q_neq rfl rfl rfl) (zm rfl (zm rfl (zS rfl (q_neq rfl rfl rfl) (zS rfl (q_or2 rfl rfl rfl) (zm rfl (zm rfl (zS rfl (q_neq rfl rfl rfl) (zS rfl (q_or2 rfl rfl rfl) (zm rfl (zm rfl (zS rfl (q_neq rfl rfl rfl) (zS rfl (q_or2 rfl rfl rfl) (zm rfl (zm rfl (zS rfl (q_neq rfl rfl rfl) (zS rfl (q_or2 rfl rfl rfl) (zm rfl (zS rfl (q_fieldAddr rfl rfl) ?_)))))))))))))))))))
 refine zS rfl (q_loadS rfl rfl (fun w hw => Stb.cl (by assumption) hw) rfl) ?_
 refine zS rfl (q_len rfl (.k rfl (.nil)) (stA (by assumption))) ?_
 refine zS rfl (q_neq rfl rfl rfl) (zS rfl (q_or2 rfl rfl rfl) (zm rfl (zS rfl (q_fieldAddr rfl rfl) ?_)))
 refine zS rfl (q_loadS rfl rfl (fun w hw => Stb.cl (by assumption) hw) rfl) ?_
 refine zS rfl (q_indexN rfl rfl rfl (stA (by assumption)) (by intro hc; (simp only [List.length_set, List.length_append, List.length_cons, List.length_nil, List.length_replicate, List.length_take, List.length_drop, List.length_map]; omega))) ?_
 refine zS rfl (q_fieldEl rfl rfl (stA (by assumption)) (by intro hc; (simp only [List.length_set, List.length_append, List.length_cons, List.length_nil, List.length_replicate, List.length_take, List.length_drop, List.length_map]; omega))) ?_
 refine zS rfl (q_loadF rfl rfl rfl (stA (by assumption)) (by intro hc; (simp only [List.length_set, List.length_append, List.length_cons, List.length_nil, List.length_replicate, List.length_take, List.length_drop, List.length_map]; omega)) rfl) ?_
 refine zS rfl (q_len rfl (.k rfl (.nil)) (stA (by assumption))) ?_
 refine zS rfl (q_neq rfl rfl rfl) (zS rfl (q_or2 rfl rfl rfl) (nP ?_))
 refine cw_cond rfl (fun hc => ?_) (fun hc => ?_)
 · exfalso
   simp [exBl] at hc
 · refine sP (zr (zm rfl (zS rfl (q_eql rfl rfl rfl) (zm rfl (zm rfl ?_)))))
   refine sw_xc rfl (by first | (simp [AllT]; done) | simp [AllT, *]) rfl rfl ((fun _ => e_buildL (α := ByteArray) (l := [⟨#[101, 105]⟩]) rfl (.k rfl (.nil)) rfl rfl rfl rfl)) (fun s96 => ?_)
   refine sw_xc rfl (by first | (simp [AllT]; done) | simp [AllT, *]) rfl rfl ((fun _ => e_buildL (α := ByteArray) (l := [⟨#[116]⟩]) rfl (.k rfl (.nil)) rfl rfl rfl rfl)) (fun s97 => ?_)
   refine sw_xc rfl (by first | (simp [AllT]; done) | simp [AllT, *]) rfl rfl ((fun _ => e_buildL (α := SlV) (l := [s96, s97, ⟨none, 0, 0⟩]) rfl (.k rfl (.k rfl (.k rfl (.nil)))) rfl rfl rfl rfl)) (fun s98 => ?_)
   refine sw_step rfl rfl rfl (q_call (CanCall.mk Tryz.call25) rfl (.k rfl (.k rfl (.nil))) (fun _ w2 hw => callq hw (samePieces_spec _ _ v1 [s96, s97, ⟨none, 0, 0⟩] ([[⟨#[101, 105]⟩], [⟨#[116]⟩], []] : List (List ByteArray)) ([[⟨#[101, 105]⟩], [⟨#[116]⟩], []] : List (List ByteArray)) w2 (stb_arg hw g1) (stb_own hw (by exact .head _)) (stb_arg hw g2) (rdr_three hw (by exact .tail _ (.tail _ (.head _))) (by exact .tail _ (.head _)))))) ?_
   refine zS rfl (q_and2 rfl rfl rfl) (zm rfl (zS rfl (q_fieldAddr rfl rfl) ?_))
   refine zS rfl (q_loadS rfl rfl (fun w hw => Stb.cl (by assumption) hw) rfl) ?_
   refine zS rfl (q_indexN rfl rfl rfl (stA (by assumption)) (by intro hc; (simp only [List.length_set, List.length_append, List.length_cons, List.length_nil, List.length_replicate, List.length_take, List.length_drop, List.length_map]; omega))) ?_
   refine zS rfl (q_fieldEl rfl rfl (stA (by assumption)) (by intro hc; (simp only [List.length_set, List.length_append, List.length_cons, List.length_nil, List.length_replicate, List.length_take, List.length_drop, List.length_map]; omega))) ?_
   refine zS rfl (q_loadF rfl rfl rfl (stA (by assumption)) (by intro hc; (simp only [List.length_set, List.length_append, List.length_cons, List.length_nil, List.length_replicate, List.length_take, List.length_drop, List.length_map]; omega)) rfl) ?_
   refine zS rfl (q_indexN rfl rfl rfl (stA (by assumption)) (by intro hc; (simp only [List.length_set, List.length_append, List.length_cons, List.length_nil, List.length_replicate, List.length_take, List.length_drop, List.length_map]; omega))) ?_
   refine zS rfl (q_fieldEl rfl rfl (stA (by assumption)) (by intro hc; (simp only [List.length_set, List.length_append, List.length_cons, List.length_nil, List.length_replicate, List.length_take, List.length_drop, List.length_map]; omega))) ?_
   refine zS rfl (q_loadF rfl rfl rfl (stA (by assumption)) (by intro hc; (simp only [List.length_set, List.length_append, List.length_cons, List.length_nil, List.length_replicate, List.length_take, List.length_drop, List.length_map]; omega)) rfl) ?_
   refine zS rfl (q_build rfl (.k rfl (.nil)) rfl) ?_
   refine sw_ung (by first | (simp [AllT]; done) | simp [AllT, *]) ?_
   refine sw_xc rfl (by first | (simp [AllT]; done) | simp [AllT, *]) rfl rfl ((fun _ => e_buildL (α := Cond) (l := [⟨-1, 0⟩]) rfl (.k rfl (.nil)) rfl rfl rfl rfl)) (fun s111 => ?_)
   refine sw_step rfl rfl rfl (q_call (CanCall.mk Tryz.call60) rfl (.k rfl (.k rfl (.nil))) (fun _ w2 hw => callq hw (sameTests_spec _ _ [⟨-1, 0⟩] [⟨-1, 0⟩] w2 (stb_arg hw hB4) (stb_own hw (by exact .head _))))) ?_
   refine zS rfl (q_and2 rfl rfl rfl) (zm rfl (zm rfl ?_))
   refine sw_xc rfl (by first | (simp [AllT]; done) | simp [AllT, *]) rfl rfl (e_callc (CanCall.mk Tryz.call39) rfl (.k rfl (.nil)) (fun w2 hw => said39_spec _ sq3 (by omega) w2 (stb_arg hw hS))) (fun s116 => ?_)
   refine sw_imp fun _ => ?_
   rw [hsr1]
   refine sw_xc rfl (by first | (simp [AllT]; done) | simp [AllT, *]) rfl rfl ((fun _ => e_buildL (α := ByteArray) (l := [⟨#[107]⟩, ⟨#[97]⟩, ⟨#[116]⟩]) rfl (.k rfl (.k rfl (.k rfl (.nil)))) rfl rfl rfl rfl)) (fun s117 => ?_)
   refine sw_step rfl rfl rfl (q_call (CanCall.mk Tryz.call38) rfl (.k rfl (.k rfl (.nil))) (fun _ w2 hw => callq hw (order_spec _ _ [⟨#[107]⟩, ⟨#[97]⟩, ⟨#[116]⟩] [⟨#[107]⟩, ⟨#[97]⟩, ⟨#[116]⟩] w2 (stb_own hw (by exact .tail _ (.head _))) (stb_own hw (by exact .head _))))) ?_
   rw [ord_self]
   refine zS rfl (q_eql rfl rfl rfl) (zS rfl (q_and2 rfl rfl rfl) (zm rfl (zm rfl ?_)))
   refine sw_xc rfl (by first | (simp [AllT]; done) | simp [AllT, *]) rfl rfl ((fun _ => e_buildL (α := ByteArray) (l := [⟨#[108]⟩, ⟨#[101]⟩, ⟨#[122]⟩]) rfl (.k rfl (.k rfl (.k rfl (.nil)))) rfl rfl rfl rfl)) (fun s123 => ?_)
   refine sw_xc rfl (by first | (simp [AllT]; done) | simp [AllT, *]) rfl rfl ((fun _ => e_buildL (α := ByteArray) (l := [⟨#[97]⟩, ⟨#[109]⟩, ⟨#[105]⟩]) rfl (.k rfl (.k rfl (.k rfl (.nil)))) rfl rfl rfl rfl)) (fun s124 => ?_)
   refine sw_xc rfl (by first | (simp [AllT]; done) | simp [AllT, *]) rfl rfl ((fun _ => e_buildL (α := SlV) (l := [s123, s124]) rfl (.k rfl (.k rfl (.nil))) rfl rfl rfl rfl)) (fun s125 => ?_)
   refine sw_step rfl rfl rfl (q_call (CanCall.mk Tryz.call25) rfl (.k rfl (.k rfl (.nil))) (fun _ w2 hw => callq hw (samePieces_spec _ _ v2 [s123, s124] ([[⟨#[108]⟩, ⟨#[101]⟩, ⟨#[122]⟩], [⟨#[97]⟩, ⟨#[109]⟩, ⟨#[105]⟩]] : List (List ByteArray)) ([[⟨#[108]⟩, ⟨#[101]⟩, ⟨#[122]⟩], [⟨#[97]⟩, ⟨#[109]⟩, ⟨#[105]⟩]] : List (List ByteArray)) w2 (stb_arg hw k1) (stb_own hw (by exact .head _)) (stb_arg hw k2) (rdr_two hw (by exact .tail _ (.tail _ (.head _))) (by exact .tail _ (.head _)))))) ?_
   refine zS rfl (q_and2 rfl rfl rfl) (zm rfl (zm rfl ?_))
   refine sw_xc rfl (by first | (simp [AllT]; done) | simp [AllT, *]) rfl rfl ((fun _ => e_buildL (α := ByteArray) (l := [⟨#[82]⟩, ⟨#[120]⟩, ⟨#[97]⟩, ⟨#[82]⟩, ⟨#[120]⟩]) rfl (.k rfl (.k rfl (.k rfl (.k rfl (.k rfl (.nil)))))) rfl rfl rfl rfl)) (fun s130 => ?_)
   refine sw_step rfl rfl rfl (q_call (CanCall.mk Tryz.call38) rfl (.k rfl (.k rfl (.nil))) (fun _ w2 hw => callq hw (order_spec _ _ [⟨#[82]⟩, ⟨#[120]⟩, ⟨#[97]⟩, ⟨#[82]⟩, ⟨#[120]⟩] [⟨#[82]⟩, ⟨#[120]⟩, ⟨#[97]⟩, ⟨#[82]⟩, ⟨#[120]⟩] w2 (stb_arg hw hA) (stb_own hw (by exact .head _))))) ?_
   rw [ord_self]
   refine zS rfl (q_eql rfl rfl rfl) (zS rfl (q_and2 rfl rfl rfl) (za rfl (nP (cw_ret (post_ret1 rfl (resOk_tmp rfl) ?_)))))
   exact fun w' hw => ⟨by simp, Cl.sel (.nil _) _ (hr.cl hw)⟩
end Go.Proofs.YtkmbliojafefdaaGreatDoor

/-
 What came in, opened by its type: cells and what they read as, whatever the shape. General lemmas, no program text.
-/
set_option autoImplicit false
set_option linter.unusedSectionVars false
namespace Go.Sx
open Go.ChangeShapes Go.WideShapes Go.ChangeAt Go.RowKit Go.WideElems
class Deep (P : Program) (t : TypeId) (α β : outParam Type) [Enc α] where
 rd : α → β → World → Prop
 keep : ∀ {a : α} {b : β} {w w' : World}, rd a b w → Chg [] w w' → rd a b w'
 opens : ∀ {H : Type} {enc : TypeId × Value → H} {w : World} {sp : Nat → Bool} {fuel : Nat} {cs : List Value} {x : DataW H × List MemPlace}, DataW.trod enc P w 0 sp true fuel t cs = some x → ∃ a b, cs = Enc.enc a ∧ rd a b w
 vals : ∀ {w : World} {r : Reach} {b0 : Nat} {v : Value} {a : α}, Value.okWide P w r b0 t v → v.cells = (Enc.enc a).toArray → v = Enc.val a
theorem open_deep {P : Program} {t : TypeId} {α β : Type} [Enc α] [hD : Deep P t α β] {H : Type} {enc : TypeId × Value → H} {W : World} {r : Reach} {b0 : Nat} {v : Value} {d : DataW H} {ps : List MemPlace}
   (hval : Value.okWide P W r b0 t v) (hd : DataW.Trod enc P W 0 (fun _ => true) true t v d ps) : ∃ (a : α) (b : β), v = Enc.val a ∧ Stb W [] (hD.rd a b) := by
 obtain ⟨fuel, hf⟩ := hd
 obtain ⟨a, b, hc, hr⟩ := hD.opens hf
 exact ⟨a, b, hD.vals hval (by rw [← hc]), ⟨fun w' k => hD.keep hr k⟩⟩
@[reducible] def deepInt {P : Program} {t : TypeId} (ht : P.underlying t = some (.int .i64)) : Deep P t Int Int where
 rd a b _ := a = b ∧ -9223372036854775808 ≤ b ∧ b ≤ 9223372036854775807
 keep h _ := h
 opens h := by
   obtain ⟨n, h1, _, hw⟩ := DataW.trod_int ht h
   refine ⟨n, n, h1, rfl, ?_⟩
   have e1 : IntKind.i64.min = -9223372036854775808 := by decide
   have e2 : IntKind.i64.max = 9223372036854775807 := by decide
   simp [Lit.wf, e1, e2] at hw
   omega
 vals hv hc := by
   obtain ⟨n, rfl⟩ := okWide_int ht hv
   simpa [Value.cells, Enc.enc, Enc.val] using hc
@[reducible] def deepString {P : Program} {t : TypeId} (ht : P.underlying t = some .string) : Deep P t ByteArray ByteArray where
 rd a b _ := a = b ∧ b.size ≤ maxLen
 keep h _ := h
 opens h := by
   obtain ⟨n, h1, _, hw⟩ := DataW.trod_string ht h
   exact ⟨n, n, h1, rfl, hw⟩
 vals hv hc := by
   obtain ⟨n, rfl⟩ := okWide_string ht hv
   simpa [Value.cells, Enc.enc, Enc.val] using hc
def rdSl {α β : Type} [Enc α] (rd : α → β → World → Prop) (s : SlV) (l : List β) (w : World) : Prop :=
 ∃ ls : List α, RdL s.v ls w ∧ ls.length = l.length ∧ ∀ (i : Nat) (a : α) (b : β), ls[i]? = some a → l[i]? = some b → rd a b w
theorem rdSl_flat {α : Type} [Enc α] {rd : α → α → World → Prop} (hf : ∀ a b w, rd a b w → a = b) {s : SlV} {l : List α} {w : World} (h : rdSl rd s l w) : RdL s.v l w := by
 obtain ⟨ls, h1, h2, h3⟩ := h
 have : ls = l := by
   refine List.ext_getElem h2 fun i hi hj => ?_
   exact hf _ _ _ (h3 i _ _ (List.getElem?_eq_getElem hi) (List.getElem?_eq_getElem hj))
 rw [← this]; exact h1
theorem stb_flat {α : Type} [Enc α] {rd : α → α → World → Prop} (hf : ∀ a b w, rd a b w → a = b) {s : SlV} {l : List α} {w : World} {fp : List Nat} (h : Stb w fp (rdSl rd s l)) : Stb w fp (RdL s.v l) := ⟨fun w' k => rdSl_flat hf (h.stb w' k)⟩
theorem rdSl_mem {α β : Type} [Enc α] {rd : α → β → World → Prop} {p : β → Prop} (hf : ∀ a b w, rd a b w → p b) {s : SlV} {l : List β} {w : World} (h : rdSl rd s l w) : ∀ b ∈ l, p b := by
 obtain ⟨ls, h1, h2, h3⟩ := h
 intro b hb
 obtain ⟨i, hi, rfl⟩ := List.getElem_of_mem hb
 exact hf _ _ _ (h3 i _ _ (List.getElem?_eq_getElem (by omega)) (List.getElem?_eq_getElem hi))
theorem pick {α : Type} {n : Nat} {p : Nat → α → Prop} (h : ∀ i, i < n → ∃ a, p i a) : ∃ l : List α, l.length = n ∧ ∀ i a, l[i]? = some a → p i a := by
 induction n with
 | zero => exact ⟨[], rfl, fun i a h => by simp at h⟩
 | succ n ih =>
   obtain ⟨l, hl, hp⟩ := ih fun i hi => h i (by omega)
   obtain ⟨a, ha⟩ := h n (by omega)
   refine ⟨l ++ [a], by simp [hl], fun i b hb => ?_⟩
   by_cases hi : i < n
   · rw [List.getElem?_append_left (by omega)] at hb; exact hp i b hb
   · by_cases hi' : i = n
     · subst hi'
       rw [List.getElem?_append_right (by omega), hl] at hb
       simp at hb; subst hb; exact ha
     · rw [List.getElem?_eq_none (by simp; omega)] at hb; cases hb
theorem cells_at {w : World} {base : Nat} {a : Addr} {n : Nat} {cs : List Value} (h : w.cells? base a n = some cs) : cs.length = n ∧ ∀ j v, cs[j]? = some v → w.cell? (a.add j) = some v := by
 unfold World.cells? at h
 split at h
 · have hl := mapM_some_length h
   rw [List.length_range] at hl
   refine ⟨hl, fun j v hj => ?_⟩
   have hlt := (List.getElem?_eq_some_iff.1 hj).1
   have := mapM_some_get h j j (List.getElem?_range (by omega))
   rw [this, hj]
 · cases h
@[reducible] def deepSlice {P : Program} {t e : TypeId} {α β : Type} [Enc α] (ht : P.underlying t = some (.slice e)) (hc : P.cellsOf e = Enc.sz α) [hD : Deep P e α β] : Deep P t SlV (List β) where
 rd := rdSl hD.rd
 keep := fun ⟨ls, h1, h2, h3⟩ k => ⟨ls, (rd_stb h1).stb _ k, h2, fun i a b ha hb => hD.keep (h3 i a b ha hb) k⟩
 opens {H enc w sp fuel cs x} h := by
   rcases DataW.trod_slice ht h with ⟨rfl, _⟩ | ⟨a, len, cap, elems, rest, n, _, rfl, _, _, hl, hm, hlen, hel, _, _⟩
   · exact ⟨⟨none, 0, 0⟩, [], rfl, [], ⟨none, 0, 0, rfl, rfl, Nat.le_refl _, by simp [maxLen], fun i x j v hx => by simp at hx⟩, rfl, fun i a b h => by simp at h⟩
   · have key : ∀ i, i < len → ∃ y : α × β, (∀ j v, (Enc.enc y.1)[j]? = some v → w.cell? ((a.add (i * Enc.sz α)).add j) = some v) ∧ hD.rd y.1 y.2 w := by
       intro i hi
       have h1 := hel i hi
       rw [hc] at h1
       have h2 : ∃ z, elems[i]? = some z := ⟨_, List.getElem?_eq_getElem (by omega)⟩
       obtain ⟨z, hz⟩ := h2
       rw [hz, Option.bind_eq_some_iff] at h1
       obtain ⟨cs', hcs, hy⟩ := h1
       obtain ⟨x, y, hx, hr⟩ := hD.opens hy
       refine ⟨(x, y), fun j v hj => ?_, hr⟩
       rw [← hx] at hj
       exact (cells_at hcs).2 j v hj
     obtain ⟨l, hl2, hp⟩ := pick key
     refine ⟨⟨some a, len, cap⟩, l.map (·.2), rfl, l.map (·.1), ⟨some a, len, cap, rfl, by simpa using hl2, hl, hm, fun i x j v hx hv => ⟨a, rfl, ?_⟩⟩, by simp, fun i x y hx hy => ?_⟩
     · rw [List.getElem?_map, Option.map_eq_some_iff] at hx
       obtain ⟨z, hz, rfl⟩ := hx
       have := (hp i z hz).1 j v hv
       rw [addr_add_assoc] at this
       exact this
     · rw [List.getElem?_map, Option.map_eq_some_iff] at hx hy
       obtain ⟨z, hz, rfl⟩ := hx
       obtain ⟨z', hz', rfl⟩ := hy
       rw [hz] at hz'; cases hz'
       exact (hp i z hz).2
 vals hv hc' := by
   obtain ⟨a0, len, cap, rfl⟩ := okWide_slice ht hv
   rename_i a
   simpa [Value.cells, Enc.enc, Enc.val] using hc'
theorem trod_fld {P : Program} {t : TypeId} {fs : Array Field} {H : Type} {enc : TypeId × Value → H} {w : World} {sp : Nat → Bool} {fuel : Nat} {cs : List Value} {x : DataW H × List MemPlace} (ht : P.underlying t = some (.struct fs))
   (h : DataW.trod enc P w 0 sp true fuel t cs = some x) (i : Nat) {f : Field} (hf : fs[i]? = some f) {ty off c : Nat} (e1 : f.type = ty) (e2 : f.offset = off) (e3 : P.cellsOf ty = c) : ∃ n y, DataW.trod enc P w 0 sp true n ty ((cs.drop off).take c) = some y := by
 subst e1 e2 e3
 obtain ⟨xs, n, _, _, _, hl, hx⟩ := DataW.trod_struct ht h
 have := hx i f hf
 have hi := (Array.getElem?_eq_some_iff.1 hf).1
 rw [List.getElem?_eq_getElem (by omega)] at this
 exact ⟨n, _, this⟩
theorem trod_len {P : Program} {t : TypeId} {fs : Array Field} {H : Type} {enc : TypeId × Value → H} {w : World} {sp : Nat → Bool} {fuel : Nat} {cs : List Value} {x : DataW H × List MemPlace} (ht : P.underlying t = some (.struct fs))
   (h : DataW.trod enc P w 0 sp true fuel t cs = some x) : cs.length = P.cellsOf t := by
 obtain ⟨xs, n, _, _, h1, _⟩ := DataW.trod_struct ht h
 exact h1
theorem vals_struct {P : Program} {t : TypeId} {fs : Array Field} {α : Type} [Enc α] (ht : P.underlying t = some (.struct fs)) (hv : ∀ a : α, Enc.val a = .agg (Enc.enc a).toArray) {w : World} {r : Reach} {b0 : Nat} {v : Value} {a : α} (hok : Value.okWide P w r b0 t v) (hc : v.cells = (Enc.enc a).toArray) : v = Enc.val a := by
 obtain ⟨cs, rfl, _⟩ := okWide_struct ht hok
 rw [hv]
 simp [Value.cells] at hc
 rw [hc]
end Go.Sx

set_option autoImplicit false
set_option maxRecDepth 100000
namespace Go.Proofs.YtkmbliojafefdaaGreatDoor
open Go.Sx
instance : Deep Tryz.prog 3 Int Int := deepInt Tryz.underlying3
instance : Deep Tryz.prog 9 ByteArray ByteArray := deepString Tryz.underlying9
theorem cells9 : Tryz.prog.cellsOf 9 = 1 := by kernel_rfl
instance dL : Deep Tryz.prog 23 SlV (List ByteArray) := deepSlice Tryz.underlying23 (by kernel_rfl)
theorem rdSl_all {α β : Type} [Enc α] {rd : α → β → World → Prop} {p : β → World → Prop} (hf : ∀ a b w, rd a b w → p b w) {s : SlV} {l : List β} {w : World} (h : rdSl rd s l w) : ∀ b ∈ l, p b w := by
 obtain ⟨ls, h1, h2, h3⟩ := h
 intro b hb
 obtain ⟨i, hi, rfl⟩ := List.getElem_of_mem hb
 exact hf _ _ _ (h3 i _ _ (List.getElem?_eq_getElem (by omega)) (List.getElem?_eq_getElem hi))
theorem cells3 : Tryz.prog.cellsOf 3 = 1 := by kernel_rfl
theorem cells21 : Tryz.prog.cellsOf 21 = 1 := by kernel_rfl
theorem cells23 : Tryz.prog.cellsOf 23 = 1 := by kernel_rfl
@[reducible] def deepRn {t : TypeId} (ht : Tryz.prog.underlying t = some (.int .i32)) : Deep Tryz.prog t Rn Rn where
 rd a b _ := a = b ∧ -2147483648 ≤ b.v ∧ b.v ≤ 2147483647
 keep h _ := h
 opens h := by
   obtain ⟨n, h1, _, hw⟩ := DataW.trod_int ht h
   refine ⟨⟨n⟩, ⟨n⟩, h1, rfl, ?_⟩
   have e1 : IntKind.i32.min = -2147483648 := by decide
   have e2 : IntKind.i32.max = 2147483647 := by decide
   simp [Lit.wf, e1, e2] at hw
   show -2147483648 ≤ n ∧ n ≤ 2147483647
   omega
 vals hv hc := by
   obtain ⟨n, rfl⟩ := Go.WideShapes.okWide_int ht hv
   simpa [Value.cells, Enc.enc, Enc.val] using hc
end Go.Proofs.YtkmbliojafefdaaGreatDoor

set_option autoImplicit false
set_option maxRecDepth 100000
namespace Go.Proofs.YtkmbliojafefdaaGreatDoor
open Go.Sx
instance dPr : Deep Tryz.prog 68 Pr Pr where
 rd a b w := a = b ∧ PrIn b w
 keep := fun ⟨h1, h2⟩ k => ⟨h1, (rd_stb h2).stb _ k⟩
 opens {H enc w sp fuel cs x} h := by
   have hl := trod_len Tryz.underlying68 h
   obtain ⟨_, _, h0⟩ := trod_fld Tryz.underlying68 h 0 rfl rfl rfl cells21
   obtain ⟨_, _, h1⟩ := trod_fld Tryz.underlying68 h 1 rfl rfl rfl cells23
   obtain ⟨_, _, h2⟩ := trod_fld Tryz.underlying68 h 2 rfl rfl rfl cells3
   obtain ⟨x0, _, e0, _⟩ := (deepRn Tryz.underlying21).opens h0
   obtain ⟨x1, l1, e1, r1⟩ := dL.opens h1
   obtain ⟨x2, _, e2, _⟩ := (deepInt Tryz.underlying3).opens h2
   rw [show Tryz.prog.cellsOf 68 = 3 by kernel_rfl] at hl
   match cs, hl with
   | [c0, c1, c2], _ =>
   simp [Enc.enc] at e0 e1 e2
   subst e0 e1 e2
   exact ⟨⟨x0.v, x1, x2, l1⟩, _, rfl, rfl, rdSl_flat (fun a b w h => h.1) r1⟩
 vals := vals_struct Tryz.underlying68 fun _ => rfl
instance dPrs : Deep Tryz.prog 22 SlV (List Pr) := deepSlice Tryz.underlying22 (by kernel_rfl)
theorem pr_all {W : World} {fp : List Nat} {s : SlV} {l : List Pr} (h : Stb W fp (rdSl (fun a b w => a = b ∧ PrIn b w) s l)) : Stb W fp fun w' => ∀ u ∈ l, PrIn u w' := ⟨fun w' k => rdSl_all (p := PrIn) (fun _ _ _ h => h.2) (h.stb w' k)⟩
instance dSp : Deep Tryz.prog 56 Sp Sp where
 rd a b w := a = b ∧ b.word.size ≤ maxLen ∧ SpIn b w
 keep := fun ⟨h1, h2, h3⟩ k => ⟨h1, h2, (rd_stb h3).stb _ k⟩
 opens {H enc w sp fuel cs x} h := by
   have hl := trod_len Tryz.underlying56 h
   obtain ⟨_, _, h0⟩ := trod_fld Tryz.underlying56 h 0 rfl rfl rfl cells9
   obtain ⟨_, _, h1⟩ := trod_fld Tryz.underlying56 h 1 rfl rfl rfl cells23
   obtain ⟨x0, _, e0, rfl, z0⟩ := (deepString Tryz.underlying9).opens h0
   obtain ⟨x1, l1, e1, r1⟩ := dL.opens h1
   rw [show Tryz.prog.cellsOf 56 = 2 by kernel_rfl] at hl
   match cs, hl with
   | [c0, c1], _ =>
   simp [Enc.enc] at e0 e1
   subst e0 e1
   exact ⟨⟨x0, x1, l1⟩, _, rfl, rfl, z0, rdSl_flat (fun a b w h => h.1) r1⟩
 vals := vals_struct Tryz.underlying56 fun _ => rfl
instance dSps : Deep Tryz.prog 38 SlV (List Sp) := deepSlice Tryz.underlying38 (by kernel_rfl)
theorem sp_all {W : World} {fp : List Nat} {s : SlV} {l : List Sp} (h : Stb W fp (rdSl (fun a b w => a = b ∧ b.word.size ≤ maxLen ∧ SpIn b w) s l)) : Stb W fp fun w' => ∀ u ∈ l, SpIn u w' := ⟨fun w' k => rdSl_all (p := SpIn) (fun _ _ _ h => h.2.2) (h.stb w' k)⟩
theorem sp_size {s : SlV} {l : List Sp} {w : World} (h : rdSl (fun (a b : Sp) w => a = b ∧ b.word.size ≤ maxLen ∧ SpIn b w) s l w) : ∀ u ∈ l, u.word.size ≤ 9223372036854775807 := rdSl_mem (p := fun u : Sp => u.word.size ≤ 9223372036854775807) (fun _ _ _ h => by have := h.2.1; unfold maxLen at this; omega) h
instance dLrn : Deep Tryz.prog 40 Lrn Lrn where
 rd a b _ := a = b
 keep h _ := h
 opens {H enc w sp fuel cs x} h := by
   have hl := trod_len Tryz.underlying40 h
   obtain ⟨_, _, h0⟩ := trod_fld Tryz.underlying40 h 0 rfl rfl rfl cells3
   obtain ⟨_, _, h1⟩ := trod_fld Tryz.underlying40 h 1 rfl rfl rfl cells3
   obtain ⟨_, _, h2⟩ := trod_fld Tryz.underlying40 h 2 rfl rfl rfl cells3
   obtain ⟨x0, _, e0, _⟩ := (deepInt Tryz.underlying3).opens h0
   obtain ⟨x1, _, e1, _⟩ := (deepInt Tryz.underlying3).opens h1
   obtain ⟨x2, _, e2, _⟩ := (deepInt Tryz.underlying3).opens h2
   rw [show Tryz.prog.cellsOf 40 = 3 by kernel_rfl] at hl
   match cs, hl with
   | [c0, c1, c2], _ =>
   simp [Enc.enc] at e0 e1 e2
   subst e0 e1 e2
   exact ⟨⟨x0, x1, x2⟩, _, rfl, rfl⟩
 vals := vals_struct Tryz.underlying40 fun _ => rfl
end Go.Proofs.YtkmbliojafefdaaGreatDoor
