import Derived.Test.YtkmbliojafefdaaGreatDoorWB2
import Derived.Laws.CopyRow
import Derived.Laws.IdiomStrings

set_option autoImplicit false
set_option linter.unusedSimpArgs false
set_option linter.unusedVariables false
set_option maxRecDepth 100000
namespace Go.Proofs.YtkmbliojafefdaaGreatDoor
open Go.Sx
open Enc (enc val)
def JntIn (x : Jnt) (w : World) : Prop := RdL x.l.v x.ll w ∧ RdL x.r.v x.rl w ∧ RdL x.tol.v x.toll w ∧ RdL x.tor.v x.torl w
theorem jntIn_stb {l : List Jnt} {w : World} (h : ∀ u ∈ l, JntIn u w) : Stb w [] fun w' => ∀ u ∈ l, JntIn u w' := ⟨fun w' k u hu => ⟨(rd_stb (h u hu).1).stb w' k, (rd_stb (h u hu).2.1).stb w' k, (rd_stb (h u hu).2.2.1).stb w' k, (rd_stb (h u hu).2.2.2).stb w' k⟩⟩
def jointOk (x : Jnt) : Bool := decide (0 < x.ll.length + x.rl.length) && phonesOk x.ll 3 && phonesOk x.rl 3 && phonesOk x.toll 3 && phonesOk x.torl 3
theorem joint_spec (x : Jnt) (w : World) (hx : JntIn x w) : Calls Tryz.prog 84 #[val x] w fun e w' => e = .returned (.bool (jointOk x)) ∧ Cl w [] [] w' := by
 obtain ⟨h1, h2, h3, h4⟩ := hx
 have h1 := rd_stb h1
 have h2 := rd_stb h2
 have h3 := rd_stb h3
 have h4 := rd_stb h4
 have z1 := rd_len h1.here
 have z2 := rd_len h2.here
 refine calls_cw (vs := [_]) Tryz.func84 rfl Tryz.ntmps84 rfl (Cl.start0 w) (zr ?_)
 refine sw_x rfl rfl rfl (e_box rfl rfl rfl) (fun b1 => ?_)
 refine za rfl (nP (zr (zS rfl (q_fieldAddr rfl rfl) ?_)))
 refine zS rfl (q_loadC rfl rfl (by exact .head _) rfl) ?_
 refine zS rfl (q_len rfl (.k rfl (.nil)) (stA (by assumption))) ?_
 refine zS rfl (q_fieldAddr rfl rfl) ?_
 refine zS rfl (q_loadC rfl rfl (by exact .head _) rfl) ?_
 refine zS rfl (q_len rfl (.k rfl (.nil)) (stA (by assumption))) ?_
 refine zS rfl (q_add_w rfl rfl rfl) (zS rfl (q_gtr rfl rfl rfl) (zm rfl (zS rfl (q_fieldAddr rfl rfl) ?_)))
 refine zS rfl (q_loadC rfl rfl (by exact .head _) rfl) ?_
 refine sw_step rfl rfl rfl (q_call (CanCall.mk Tryz.call63) rfl (.k rfl (.k rfl (.nil))) (fun _ w hw => callq hw (phones_spec _ _ _ w (by exact stb_arg hw (by assumption))))) ?_
 refine zS rfl (q_and2 rfl rfl rfl) (zm rfl (zS rfl (q_fieldAddr rfl rfl) ?_))
 refine zS rfl (q_loadC rfl rfl (by exact .head _) rfl) ?_
 refine sw_step rfl rfl rfl (q_call (CanCall.mk Tryz.call63) rfl (.k rfl (.k rfl (.nil))) (fun _ w hw => callq hw (phones_spec _ _ _ w (by exact stb_arg hw (by assumption))))) ?_
 refine zS rfl (q_and2 rfl rfl rfl) (zm rfl (zS rfl (q_fieldAddr rfl rfl) ?_))
 refine zS rfl (q_loadC rfl rfl (by exact .head _) rfl) ?_
 refine sw_step rfl rfl rfl (q_call (CanCall.mk Tryz.call63) rfl (.k rfl (.k rfl (.nil))) (fun _ w hw => callq hw (phones_spec _ _ _ w (by exact stb_arg hw (by assumption))))) ?_
 refine zS rfl (q_and2 rfl rfl rfl) (zm rfl (zS rfl (q_fieldAddr rfl rfl) ?_))
 refine zS rfl (q_loadC rfl rfl (by exact .head _) rfl) ?_
 refine sw_step rfl rfl rfl (q_call (CanCall.mk Tryz.call63) rfl (.k rfl (.k rfl (.nil))) (fun _ w hw => callq hw (phones_spec _ _ _ w (by exact stb_arg hw (by assumption))))) ?_
 refine zS rfl (q_and2 rfl rfl rfl) (za rfl (nP (cw_ret (post_ret1 rfl (resOk_tmp rfl) ?_))))
 refine fun w' hw => ⟨?_, (Cl.sel (by exact .nil _)) _ hw⟩
 congr 2
 unfold jointOk
 cases h5 : phonesOk x.ll 3 with
 | false => simp
 | true =>
   cases h6 : phonesOk x.rl 3 with
   | false => simp
   | true =>
     have a1 : x.ll.length ≤ 3 := by simp [phonesOk] at h5; omega
     have a2 : x.rl.length ≤ 3 := by simp [phonesOk] at h6; omega
     have e1 : decide (0 < IntKind.i64.wrap ((x.ll.length : Int) + (x.rl.length : Int))) = decide (0 < x.ll.length + x.rl.length) := by
       rw [IntKind.wrap_i64]
       exact decide_eq_decide.2 ⟨fun h => by omega, fun h => by omega⟩
     rw [e1]
theorem badJoint_spec (l : List Jnt) : PredL Tryz.prog 83 #[] (fun x => !jointOk x) (fun w => ∀ u ∈ l, JntIn u w) l := by
 intro x hx w hR
 have hxi := hR x hx
 have hxs : Stb w [] (JntIn x) := stb_mem (jntIn_stb hR) hx
 refine calls_cw (vs := [_]) Tryz.func83 rfl Tryz.ntmps83 rfl (Cl.start0 w) (zr ?_)
 refine sw_x rfl rfl rfl (e_box rfl rfl rfl) (fun b1 => ?_)
 refine za rfl (nP (zr ?_))
 refine zS rfl (q_loadA rfl rfl (by exact .head _) rfl) ?_
 refine sw_step rfl rfl rfl (q_call (CanCall.mk Tryz.call84) rfl (.k rfl (.nil)) (fun _ w hw => callq hw (joint_spec _ w (stb_arg hw hxs).here))) (zS rfl (q_not rfl rfl) (za rfl (nP (cw_ret (post_ret1 rfl (resOk_tmp rfl) ?_)))))
 exact fun w' hw => ⟨rfl, (Cl.sel (by exact .nil _)) _ hw⟩
theorem badWord_spec (vs : List SlV) (ll : List (List ByteArray)) (hl : vs.length = ll.length) : PredN Tryz.prog 86 #[] (fun i => !phonesOk (nth ll i) 120) (fun w => RdR vs ll w) vs := by
 intro i hi w hR
 have h1 : Stb w [] (RdL (nth vs i).v (nth ll i)) := rd_stb (hR.2 i (by omega))
 refine calls_cw (vs := [_]) Tryz.func86 rfl Tryz.ntmps86 rfl (Cl.start0 w) (zr (za rfl (nP (cw_seq (cw_region (zm rfl ?_))))))
 refine sw_step rfl rfl rfl (q_call (CanCall.mk Tryz.call63) rfl (.k rfl (.k rfl (.nil))) (fun _ w hw => callq hw (phones_spec _ _ _ w (by exact stb_arg hw (by assumption))))) ?_
 refine zS rfl (q_not rfl rfl) (za rfl (nP (cw_ret (post_ret1 rfl (resOk_tmp rfl) ?_))))
 exact fun w' hw => ⟨rfl, hw⟩
def fitsC (x : Jnt) (a b : List ByteArray) : Bool := decide (x.ll.length ≤ a.length) && decide (x.rl.length ≤ b.length) && decide (a.drop (a.length - x.ll.length) = x.ll) && decide (b.take x.rl.length = x.rl)
theorem fits_spec (x : Jnt) (sa sb : SlV) (a b : List ByteArray) (w : World) (hx : Stb w [] (JntIn x)) (ha : Stb w [] (RdL sa.v a)) (hb : Stb w [] (RdL sb.v b)) : Calls Tryz.prog 90 #[val x, sa.v, sb.v] w fun e w' => e = .returned (.bool (fitsC x a b)) ∧ Cl w [] [] w' := by
 have h1 : Stb w [] (RdL x.l.v x.ll) := stb_map hx fun _ h => h.1
 have h2 : Stb w [] (RdL x.r.v x.rl) := stb_map hx fun _ h => h.2.1
 have z1 := rd_len h1.here
 have z2 := rd_len h2.here
 have z3 := rd_len ha.here
 have z4 := rd_len hb.here
 have f1 : x.ll.length ≤ a.length → Stb w [] (RdL (sa.sub 1 ((a.length : Int) - (x.ll.length : Int)).toNat a.length).v ((a.take a.length).drop (a.length - x.ll.length))) := fun h => by
   rw [show ((a.length : Int) - (x.ll.length : Int)).toNat = a.length - x.ll.length by omega]
   exact stb_sub ha (by omega) (Nat.le_refl _)
 have f2 : x.rl.length ≤ b.length → Stb w [] (RdL (sb.sub 1 0 (x.rl.length : Int).toNat).v ((b.take x.rl.length).drop 0)) := fun h => stb_sub hb (Nat.zero_le _) h
 refine calls_cw (vs := [_, _, _]) Tryz.func90 rfl Tryz.ntmps90 rfl (Cl.start0 w) (zr ?_)
 refine sw_x rfl rfl rfl (e_box rfl rfl rfl) (fun b3 => ?_)
 refine za rfl (nP (cw_seq ?_))
 refine cw_region_q mixed_Tryz (by kernel_rfl) ?_
 refine zw rfl ?_
 refine zq rfl (q_len rfl (.k rfl (.nil)) (stA (by assumption))) ?_
 refine zq rfl (q_fieldAddr rfl rfl) ?_
 refine zq rfl (q_loadC rfl rfl (by exact .head _) rfl) ?_
 refine zq rfl (q_len rfl (.k rfl (.nil)) (stA (by assumption))) ?_
 refine zq rfl (q_geq rfl rfl rfl) (zw rfl (zw rfl ?_))
 refine zq rfl (q_len rfl (.k rfl (.nil)) (stA (by assumption))) ?_
 refine zq rfl (q_fieldAddr rfl rfl) ?_
 refine zq rfl (q_loadC rfl rfl (by exact .head _) rfl) ?_
 refine zq rfl (q_len rfl (.k rfl (.nil)) (stA (by assumption))) ?_
 refine zq rfl (q_geq rfl rfl rfl) (zq rfl (q_and2 rfl rfl rfl) (zw rfl (zw rfl (zw rfl ?_))))
 refine zq rfl (q_len rfl (.k rfl (.nil)) (stA (by assumption))) ?_
 refine zq rfl (q_fieldAddr rfl rfl) ?_
 refine zq rfl (q_loadC rfl rfl (by exact .head _) rfl) ?_
 refine zq rfl (q_len rfl (.k rfl (.nil)) (stA (by assumption))) ?_
 refine zq rfl (q_sub rfl rfl rfl (by intro hc; omega)) ?_
 refine zq rfl (q_sliceL rfl rfl rfl (stA (by assumption)) (fun hcc => by simp [AllT] at hcc; omega)) ?_
 refine zq rfl (q_fieldAddr rfl rfl) ?_
 refine zq rfl (q_loadC rfl rfl (by exact .head _) rfl) ?_
 refine qw_step rfl rfl rfl (q_call (CanCall.mk Tryz.call100) rfl (.k rfl (.k rfl (.nil))) (fun hcc w1 hw => callq hw (equalL_spec _ _ ((a.take a.length).drop (a.length - x.ll.length)) x.ll w1 (stb_arg hw (f1 (by simp [AllT] at hcc; omega))) (stb_arg hw h1)))) ?_
 refine zq rfl (q_and2 rfl rfl rfl) (zw rfl (zw rfl (zq rfl (q_fieldAddr rfl rfl) ?_)))
 refine zq rfl (q_loadC rfl rfl (by exact .head _) rfl) ?_
 refine zq rfl (q_len rfl (.k rfl (.nil)) (stA (by assumption))) ?_
 refine zq rfl (q_sliceH rfl rfl rfl (stA (by assumption)) (fun hcc => by simp [AllT] at hcc; omega)) ?_
 refine zq rfl (q_fieldAddr rfl rfl) ?_
 refine zq rfl (q_loadC rfl rfl (by exact .head _) rfl) ?_
 refine qw_step rfl rfl rfl (q_call (CanCall.mk Tryz.call100) rfl (.k rfl (.k rfl (.nil))) (fun hcc w1 hw => callq hw (equalL_spec _ _ ((b.take x.rl.length).drop 0) x.rl w1 (stb_arg hw (f2 (by simp [AllT] at hcc; omega))) (stb_arg hw h2)))) ?_
 refine zq rfl (q_and2 rfl rfl rfl) (zq rfl (q_assign rfl rfl) (qw_end (post_then (cw_ret (post_ret1 rfl (resOk_tmp rfl) ?_)))))
 refine fun w' hw => ⟨?_, (Cl.sel (by exact .nil _)) _ hw⟩
 congr 2
 unfold fitsC
 rw [List.take_length, List.drop_zero, show decide ((x.ll.length : Int) ≤ (a.length : Int)) = decide (x.ll.length ≤ a.length) from decide_eq_decide.2 ⟨fun h => by omega, fun h => by omega⟩, show decide ((x.rl.length : Int) ≤ (b.length : Int)) = decide (x.rl.length ≤ b.length) from decide_eq_decide.2 ⟨fun h => by omega, fun h => by omega⟩]
theorem fitsAt_spec (b6 b9 : Nat) (so : SlV) (vs : List SlV) (i : Nat) (hi : i + 1 < vs.length) (a b : List ByteArray) (l : List Jnt) : PredL Tryz.prog 89 #[.pointer (some ⟨b6, 0, none⟩), .pointer (some ⟨b9, 0, none⟩)] (fun x => fitsC x a b) (fun w => (BlkAt b6 [so.v] 27 w ∧ BlkAt b9 [.int .i64 i] 3 w ∧ RdL so.v vs w) ∧ RdL (nth vs i).v a w ∧ RdL (nth vs (i + 1)).v b w ∧ ∀ u ∈ l, JntIn u w) l := by
 intro x hx w ⟨⟨hR1, hR2, hR3⟩, hR4, hR5, hR6⟩
 have h1 := blk_stb hR1
 have h2 := blk_stb hR2
 have h3 := rd_stb hR3
 have h4 := rd_stb hR4
 have h5 := rd_stb hR5
 have z3 := rd_len h3.here
 have hxs : Stb w [] (JntIn x) := stb_mem (jntIn_stb hR6) hx
 refine calls_cw (vs := [_, _, _]) Tryz.func89 rfl Tryz.ntmps89 rfl (Cl.start0 w) (zr ?_)
 refine sw_x rfl rfl rfl (e_box rfl rfl rfl) (fun b3 => ?_)
 refine za rfl (nP (cw_seq ?_))
 refine cw_region_q mixed_Tryz (by kernel_rfl) ?_
 refine zq rfl (q_loadA rfl rfl (by exact .head _) rfl) ?_
 refine zq rfl (q_loadS rfl rfl (fun w hw => Stb.cl (by assumption) hw) rfl) ?_
 refine zq rfl (q_loadS rfl rfl (fun w hw => Stb.cl (by assumption) hw) rfl) ?_
 refine zq rfl (q_indexN rfl rfl rfl (stA (by assumption)) (by intro hc; omega)) ?_
 refine zq rfl (q_loadEl rfl rfl rfl (stA (by assumption)) (by intro hc; omega)) ?_
 refine zq rfl (q_loadS rfl rfl (fun w hw => Stb.cl (by assumption) hw) rfl) ?_
 refine zq rfl (q_loadS rfl rfl (fun w hw => Stb.cl (by assumption) hw) rfl) ?_
 refine zq rfl (q_add rfl rfl rfl (by intro hc; omega)) ?_
 refine zq rfl (q_indexN rfl rfl rfl (stA (by assumption)) (by intro hc; omega)) ?_
 refine zq rfl (q_loadEl rfl rfl rfl (stA (by assumption)) (by intro hc; omega)) ?_
 refine qw_step rfl rfl rfl (q_call (CanCall.mk Tryz.call90) rfl (.k rfl (.k rfl (.k rfl (.nil)))) (fun _ w1 hw => callq hw (fits_spec x (nth vs i) (nth vs (i + 1)) a b w1 (stb_arg hw hxs) (stb_arg hw h4) (stb_arg hw h5)))) (zq rfl (q_assign rfl rfl) (qw_end (post_then (cw_ret (post_ret1 rfl (resOk_tmp rfl) ?_)))))
 exact fun w' hw => ⟨rfl, (Cl.sel (by exact .nil _)) _ hw⟩
end Go.Proofs.YtkmbliojafefdaaGreatDoor

set_option autoImplicit false
set_option maxRecDepth 100000
namespace Go.Proofs.YtkmbliojafefdaaGreatDoor
open Go.Sx
open Enc (enc val)
def stepJ (j : List Jnt) (a b : List ByteArray) : List ByteArray × List ByteArray := match j.find? fun x => fitsC x a b with
 | none => (a, b)
 | some x => (a.take (a.length - x.ll.length) ++ x.toll, x.torl ++ b.drop x.rl.length)
def joinAt (j : List Jnt) (ll : List (List ByteArray)) (i : Nat) : List (List ByteArray) := (ll.set i (stepJ j (nth ll i) (nth ll (i + 1))).1).set (i + 1) (stepJ j (nth ll i) (nth ll (i + 1))).2
def joinF (j : List Jnt) : Nat → Nat → List (List ByteArray) → Option (List (List ByteArray))
 | 0, _, ll => some ll
 | n + 1, i, ll => if 120 < (nth (joinAt j ll i) i).length ∨ 120 < (nth (joinAt j ll i) (i + 1)).length then none else joinF j n (i + 1) (joinAt j ll i)
def joinC (j : List Jnt) (ll : List (List ByteArray)) : Option (List (List ByteArray)) := joinF j (ll.length - 1) 0 ll
theorem set_same {α : Type} [Inhabited α] (l : List α) (i : Nat) : l.set i (nth l i) = l := by
 by_cases h : i < l.length
 · rw [nth_get h, List.set_getElem_self]
 · rw [List.set_eq_of_length_le (by omega)]
theorem nth_set_ne {α : Type} [Inhabited α] (l : List α) {i k : Nat} (x : α) (h : k ≠ i) : nth (l.set i x) k = nth l k := by
 simp only [nth, List.getD, List.getElem?_set]
 rw [if_neg (fun e => h e.symm)]
theorem nth_set_eq {α : Type} [Inhabited α] {l : List α} {i : Nat} (x : α) (h : i < l.length) : nth (l.set i x) i = x := by
 rw [nth_setP _ _ _ _ h, if_pos rfl]
theorem joinAt_len (j : List Jnt) (ll : List (List ByteArray)) (i : Nat) : (joinAt j ll i).length = ll.length := by simp [joinAt]
theorem joinAt_no {j : List Jnt} {ll : List (List ByteArray)} {i : Nat} (h : j.find? (fun x => fitsC x (nth ll i) (nth ll (i + 1))) = none) : joinAt j ll i = ll := by
 unfold joinAt stepJ
 rw [h]
 dsimp only
 rw [set_same, set_same]
theorem joinAt_1 {j : List Jnt} {ll : List (List ByteArray)} {i : Nat} (h : i + 1 < ll.length) : nth (joinAt j ll i) i = (stepJ j (nth ll i) (nth ll (i + 1))).1 := by
 unfold joinAt
 rw [nth_set_ne _ _ (by omega), nth_set_eq _ (by omega)]
theorem joinAt_2 {j : List Jnt} {ll : List (List ByteArray)} {i : Nat} (h : i + 1 < ll.length) : nth (joinAt j ll i) (i + 1) = (stepJ j (nth ll i) (nth ll (i + 1))).2 := by
 unfold joinAt
 rw [nth_set_eq _ (by simpa using h)]
theorem idxP_find {α : Type} [Inhabited α] (p : α → Bool) (l : List α) : (idxP p l < 0 → l.find? p = none) ∧ (0 ≤ idxP p l → (idxP p l).toNat < l.length ∧ l.find? p = some (nth l (idxP p l).toNat)) := by
 unfold idxP
 cases h : l.findIdx? p with
 | none =>
   refine ⟨fun _ => ?_, fun h2 => by simp at h2⟩
   rw [List.findIdx?_eq_none_iff] at h
   rw [List.find?_eq_none]
   intro x hx; simp [h x hx]
 | some i =>
   obtain ⟨hi, hp, hn⟩ := List.findIdx?_eq_some_iff_getElem.1 h
   refine ⟨fun h2 => by simp at h2; omega, fun _ => ⟨hi, ?_⟩⟩
   show l.find? p = some (nth l i)
   refine find_at hi (fun k hk => ?_) (by rw [nth_get hi]; exact hp)
   have := hn k hk
   rw [nth_get (by omega)]
   simpa using this
theorem sep_mem : ∀ {L : List Asn} {w : World} {bs : List Nat}, Sep L w bs → ∀ A ∈ L, ∃ b, A.holds w b
 | [], _, _, _, A, hA => by simp at hA
 | X :: L, w, bs, ⟨b1, b2, _, k1, k2⟩, A, hA => by
   rcases List.mem_cons.1 hA with rfl | hA
   · exact ⟨_, k1⟩
   · exact sep_mem k2 A hA
theorem rows_rd {e : TypeId} {vs : List SlV} {ll : List (List ByteArray)} {w : World} {bs : List Nat} (hl : vs.length = ll.length) (h : Sep (rowsF e vs (nth ll)) w bs) : RdR vs ll w := by
 refine ⟨hl, fun i hi => ?_⟩
 obtain ⟨b, hb⟩ := sep_mem h _ (rowsF_mem (e := e) (vs := vs) (f := nth ll) (i := i) (by omega))
 exact ownL.rd hb
theorem perm_two {A B : Asn} {P R : List Asn} : (P ++ A :: B :: R).Perm (A :: B :: (P ++ R)) := List.perm_middle.trans (List.perm_middle.cons A)
theorem perm_three {A B C : Asn} {R : List Asn} : (A :: B :: C :: R).Perm (C :: B :: A :: R) :=
 ((List.perm_append_comm (l₁ := [A, B]) (l₂ := [C])).append_right R).trans ((List.Perm.swap B A R).cons C)
theorem rd_dropS {s : SlV} {l : List ByteArray} {w : World} (h : RdL s.v l w) {k : Nat} (hk : k ≤ l.length) : RdL (s.sub 1 k l.length).v (l.drop k) w := by
 have := rd_sub h (a := k) (b := l.length) hk (Nat.le_refl _)
 rwa [List.take_length] at this
theorem rowsO2_congr {e : TypeId} {vs vs' : List SlV} {f f' : Nat → List ByteArray} {i j : Nat} (hl : vs'.length = vs.length) (h : ∀ k, k < vs.length → k ≠ i → k ≠ j → f' k = f k ∧ nth vs' k = nth vs k) : rowsO2 e vs' f' i j = rowsO2 e vs f i j := by
 unfold rowsO2
 rw [hl]
 have hn : (List.range vs.length).Nodup := List.nodup_range
 have key : ∀ k ∈ ((List.range vs.length).erase i).erase j, k < vs.length ∧ k ≠ i ∧ k ≠ j := fun k hk => by
   have h1 := ((hn.erase i).mem_erase_iff).1 hk
   have h2 := (hn.mem_erase_iff).1 h1.2
   exact ⟨by simpa using h2.2, h2.1, h1.1⟩
 exact rowsAt_congr (fun k hk => (h k (key k hk).1 (key k hk).2.1 (key k hk).2.2).1) fun k hk => (h k (key k hk).1 (key k hk).2.1 (key k hk).2.2).2
def joinE (j : List Jnt) (ll : List (List ByteArray)) : Int := if 200 < j.length ∨ 100 < ll.length then 4 else if j.all jointOk && ll.all fun l => phonesOk l 120 then (match joinC j ll with | some _ => 0 | none => 4) else 2
def joinR (j : List Jnt) (ll : List (List ByteArray)) : List (List ByteArray) := if joinE j ll = 0 then (joinC j ll).getD [] else []
theorem cl_fin {w0 w : World} {A B C D E F G O : Asn} {R R' : List Asn} (h : Cl w0 [] (A :: B :: C :: D :: E :: F :: G :: O :: R) w) (p : R'.Perm (C :: B :: R)) : Cl w0 [] (F :: A :: O :: R') w := by
 have h1 : (A :: B :: C :: D :: E :: F :: G :: O :: R).Perm (D :: E :: G :: (F :: A :: O :: C :: B :: R)) := by
   have p1 : (A :: B :: C :: D :: E :: F :: G :: O :: R).Perm ([D, E, F, G, O] ++ ([A, B, C] ++ R)) := (List.perm_append_comm (l₁ := [A, B, C]) (l₂ := [D, E, F, G, O])).append_right R |>.trans (by simp)
   refine p1.trans ?_
   show (D :: E :: F :: G :: O :: A :: B :: C :: R).Perm _
   refine .cons _ (.cons _ ?_)
   refine (List.Perm.swap G F _).trans (.cons _ (.cons _ ?_))
   refine (List.Perm.swap A O _).trans (.cons _ (.cons _ ?_))
   exact List.Perm.swap C B R
 exact (h.perm (h1.trans (((((p.symm.cons O).cons A).cons F).cons G).cons E |>.cons D))).tail.tail.tail
theorem join_spec (sj sw : SlV) (j : List Jnt) (ll : List (List ByteArray)) (w : World) (hj : Stb w [] (RdL sj.v j)) (hji : Stb w [] fun w' => ∀ u ∈ j, JntIn u w') (hsw : Stb w [] (RdRR sw.v ll)) :
   Calls Tryz.prog 46 #[sj.v, sw.v] w fun e w' => ∃ r : SlV, e = .returned (.tuple #[r.v, .int .i64 (joinE j ll)]) ∧ True ∧ Cl w [] [frz (RdRR r.v (joinR j ll))] w' := by
 obtain ⟨vs0, g1, g2⟩ := hsw.here
 have h0 := rd_stb g1
 have hR := rdR_stb g2
 have hvl := g2.1
 have hLj := rd_len hj.here
 have hLw := rd_len h0.here
 refine calls_cw (vs := [_, _]) Tryz.func46 rfl Tryz.ntmps46 rfl (Cl.start0 w) (zr (za rfl (za rfl (nP (cw_seq (cw_seq (cw_region (zm rfl ?_))))))))
 refine zS rfl (q_len rfl (.k rfl (.nil)) (stA (by assumption))) ?_
 refine zS rfl (q_gtr rfl rfl rfl) (zm rfl (zm rfl ?_))
 refine zS rfl (q_len rfl (.k rfl (.nil)) (stA (by assumption))) ?_
 refine zS rfl (q_gtr rfl rfl rfl) (zS rfl (q_or2 rfl rfl rfl) (nP ?_))
 refine cw_cond rfl (fun h => ?_) (fun h => ?_)
 · have e1 : joinE j ll = 4 := by unfold joinE; rw [if_pos (by simp at h; omega)]
   have e2 : joinR j ll = [] := by unfold joinR; rw [if_neg (by rw [e1]; decide)]
   refine zr (za rfl (za rfl (nP (cw_ret (post_then_r (post_ret2 rfl (resOk_tmp rfl) (resOk_tmp rfl) ?_))))))
   exact fun w' hw => ⟨⟨none, 0, 0⟩, by rw [e1]; rfl, trivial, by rw [e2]; exact frz_nil hw⟩
 · have hb : ¬ (200 < j.length ∨ 100 < ll.length) := by simp at h; omega
   have e0 : joinE j ll = if j.all jointOk && ll.all fun l => phonesOk l 120 then (match joinC j ll with | some _ => 0 | none => 4) else 2 := by unfold joinE; rw [if_neg hb]
   refine sP (cw_seq (zr (zm rfl ?_)))
   refine sw_step rfl rfl rfl (q_call (CanCall.mk Tryz.call82) rfl (.k rfl (.k rfl (.nil))) (fun _ w hw => callq hw (hasJnt_spec _ _ _ _ _ _ w (by exact stb_arg hw (by assumption)) (stb_arg hw hji) (CanCall.mk Tryz.call83) (badJoint_spec j)))) ?_
   refine zm rfl (zm rfl (sw_step rfl rfl rfl (q_call (CanCall.mk Tryz.call85) rfl (.k rfl (.k rfl (.nil))) (fun _ w hw => callq hw (hasN_spec _ vs0 _ _ _ _ w (stb_arg hw h0) (stb_arg hw hR) (CanCall.mk Tryz.call86) (badWord_spec vs0 ll hvl)))) (zS rfl (q_or2 rfl rfl rfl) (nP ?_))))
   rw [all_not_any, hvl, any_range (fun l => phonesOk l 120)]
   refine cw_cond rfl (fun h2 => ?_) (fun h2 => ?_)
   · have e1 : joinE j ll = 2 := by
       rw [e0, if_neg]
       cases h3 : j.all jointOk <;> cases h4 : (ll.all fun l => phonesOk l 120) <;> simp [h3, h4] at h2 ⊢
     have e2 : joinR j ll = [] := by unfold joinR; rw [if_neg (by rw [e1]; decide)]
     refine zr (za rfl (za rfl (nP (cw_ret (post_then_r (post_ret2 rfl (resOk_tmp rfl) (resOk_tmp rfl) ?_))))))
     exact fun w' hw => ⟨⟨none, 0, 0⟩, by rw [e1]; rfl, trivial, by rw [e2]; exact frz_nil hw⟩
   · have h3 : j.all jointOk = true ∧ (ll.all fun l => phonesOk l 120) = true := by
       cases h3 : j.all jointOk <;> cases h4 : (ll.all fun l => phonesOk l 120) <;> simp [h3, h4] at h2 ⊢
     rw [if_pos (by rw [h3.1, h3.2]; rfl)] at e0
     have hjo : ∀ x ∈ j, x.ll.length ≤ 3 ∧ x.rl.length ≤ 3 ∧ x.toll.length ≤ 3 ∧ x.torl.length ≤ 3 := fun x hx => by
       have := List.all_eq_true.1 h3.1 x hx
       simp [jointOk, phonesOk] at this; omega
     have hlo : ∀ l ∈ ll, l.length ≤ 120 := fun l hl => by
       have := List.all_eq_true.1 h3.2 l hl
       simp [phonesOk] at this; omega
     refine sP (zr ?_)
     refine sw_x rfl rfl rfl (e_alloc rfl) (fun b6 => ?_)
     refine nP (cw_seq (zr (zm rfl ?_)))
     refine zS rfl (q_len rfl (.k rfl (.nil)) (stA (by assumption))) ?_
     refine zm rfl (nP (cw_block ?_))
     refine cw_loop (S := Nat × SlV × List SlV) (fun y => [(0, [], sj.v), (6, [], .pointer (some ⟨b6, 0, none⟩)), (26, [], sw.v), (27, [], .int .i64 vs0.length), (28, [], .int .i64 y.1)]) (fun y => Cl w [] (blk b6 [y.2.1.v] 27 :: ownL 23 y.2.1.v y.2.2 :: rowsF 9 y.2.2 (nth ll))) (fun y => y.1 ≤ ll.length ∧ y.2.2.length = y.1) (fun y => ll.length - y.1) (0, ⟨none, 0, 0⟩, []) ⟨Nat.zero_le _, rfl⟩ (by exact .cons rfl (.cons rfl (.cons rfl (.cons rfl (.cons rfl .nil))))) (fun w' h => (Cl.addNil 23 h).perm (.swap _ _ _)) ?_
     rintro ⟨k, so, vs⟩ ⟨hk, hvk⟩
     dsimp only at hk hvk ⊢
     refine zr (zS rfl (q_lss rfl rfl rfl) (nP (cw_seq ?_)))
     refine cw_cond rfl (fun h4 => ?_) (fun h4 => ?_)
     · have hk' : k < ll.length := by simp at h4; omega
       have hrow : Stb w [] (RdL (nth vs0 k).v (nth ll k)) := stb_row hR hk'
       have hrl := hlo _ (nth_mem hk')
       refine sP (cw_seq (cw_block (zr ?_)))
       refine zS rfl (q_indexN rfl rfl rfl (stA (by assumption)) (by intro hc; omega)) ?_
       refine zS rfl (q_loadEl rfl rfl rfl (stA (by assumption)) (by intro hc; omega)) ?_
       refine za rfl (nP (cw_region_a (Cl w [] [blk b6 [so.v] 27]) [5] mixed_Tryz ?_))
       refine zk 0 (Cl.sel (by exact .take 0 rfl (.nil _))) rfl (q_loadC rfl rfl (by exact .head _) rfl) ?_
       refine zp 1 rfl (q_move rfl rfl) ?_
       refine aw_x 2 (by kernel_rfl) rfl rfl rfl rfl (e_call (CanCall.mk Tryz.call87) rfl (.k rfl (.nil)) (fun w1 hw => cloneL_spec _ (nth ll k) (by omega) w1 (stb_arg hw hrow))) (by intro hb; exact fun _ w h => (Cl.sel (by exact .take 1 rfl (.nil _))) w h.2) (fun s34 => ?_)
       refine aw_imp fun _ => ?_
       refine aw_x 3 (by kernel_rfl) rfl rfl rfl rfl (e_build1 (α := SlV) rfl rfl rfl rfl) (by intro hb; exact fun _ => (Cl.sel (by exact .take 2 rfl (.nil _)))) (fun s35 => ?_)
       refine aw_x 4 (by kernel_rfl) rfl rfl rfl rfl (e_append (i := 3) rfl (.k rfl (.k rfl (.nil))) rfl rfl (rdO (by exact .head _)) (by first | omega | (simp only [List.length_set, List.length_append, List.length_cons, List.length_nil, List.length_replicate, List.length_take, List.length_drop, List.length_map]; omega)) rfl) (by intro hb; exact fun _ => (Cl.sel (by exact .take 2 rfl (.nil _)))) (fun s36 => ?_)
       refine aw_one0 5 (by kernel_rfl) rfl rfl rfl (e_store (i := 2) rfl rfl rfl rfl rfl rfl rfl rfl) (by intro hb; (exact absurd hb (by decide))) ?_
       refine aw_end (by kernel_rfl) ?_
       refine post_blk (post_then (cw_region ?_))
       refine zS rfl (q_add rfl rfl rfl (by intro hc; omega)) ?_
       refine zm rfl (sw_nil ?_)
       refine post_next (k + 1, s36, vs ++ [s34]) (by exact .cons rfl (.cons rfl (.cons rfl (.cons rfl (.cons rfl .nil))))) (fun w' h => ?_) ⟨by simp only; omega, by simp; omega⟩ (by simp only; omega)
       have h7 : Cl w [] (ownL 23 s35.v [s34] :: ownL 9 s34.v (nth ll k) :: blk b6 [s36.v] 27 :: ownL 23 s36.v (vs ++ [s34]) :: rowsF 9 vs (nth ll)) w' := h
       simp only
       rw [rowsF_snoc, hvk]
       exact h7.tail.perm (List.perm_append_singleton _ _).symm
     · have hk' : k = ll.length := by simp at h4; omega
       subst hk'
       refine cw_exit (post_then_x (post_then_x (post_blk_eq (post_then (cw_seq (zr ?_))))))
       refine sw_x rfl rfl rfl (e_alloc rfl) (fun b9 => ?_)
       refine sw_eff0 rfl rfl (e_store (i := 0) rfl rfl rfl rfl rfl rfl rfl rfl) (nP (cw_block ?_))
       refine cw_loop (S := Nat × Nat × List SlV × List (List ByteArray)) (fun y => [(0, [], sj.v), (6, [], .pointer (some ⟨b6, 0, none⟩)), (9, [], .pointer (some ⟨y.2.1, 0, none⟩))]) (fun y => Cl w [] (blk b6 [so.v] 27 :: blk y.2.1 [.int .i64 y.1] 3 :: ownL 23 so.v y.2.2.1 :: rowsF 9 y.2.2.1 (nth y.2.2.2))) (fun y => y.1 ≤ ll.length ∧ y.2.2.1.length = ll.length ∧ y.2.2.2.length = ll.length ∧ (∀ l ∈ y.2.2.2, l.length ≤ 120) ∧ joinC j ll = joinF j (ll.length - 1 - y.1) y.1 y.2.2.2) (fun y => ll.length - y.1) (0, b9, vs, ll) ⟨Nat.zero_le _, hvk, rfl, hlo, rfl⟩ (by exact .cons rfl (.cons rfl (.cons rfl .nil))) (fun w' h => h.perm (.swap _ _ _)) ?_
       rintro ⟨i, bi, vs, mm⟩ ⟨hi0, hvn, hmn, hmb, hjc⟩
       dsimp only at hi0 hvn hmn hmb hjc ⊢
       refine cw_seq (zr ?_)
       refine zS rfl (q_loadC rfl rfl (by exact .tail _ (.head _)) rfl) ?_
       refine zS rfl (q_add rfl rfl rfl (by intro hc; omega)) ?_
       refine zS rfl (q_loadC rfl rfl (by exact .head _) rfl) ?_
       refine zS rfl (q_len rfl (.k rfl (.nil)) (rdO (by exact .tail _ (.tail _ (.head _))))) ?_
       refine zS rfl (q_lss rfl rfl rfl) (nP ?_)
       refine cw_cond rfl (fun h5 => ?_) (fun h5 => ?_)
       · have hi : i + 1 < ll.length := by simp at h5; omega
         have ha := hmb _ (nth_mem (l := mm) (i := i) (by omega))
         have hb2 := hmb _ (nth_mem (l := mm) (i := i + 1) (by omega))
         obtain ⟨a, hae⟩ : ∃ a, nth mm i = a := ⟨_, rfl⟩
         obtain ⟨b, hbe⟩ : ∃ b, nth mm (i + 1) = b := ⟨_, rfl⟩
         have hsucc : ll.length - 1 - i = (ll.length - 1 - (i + 1)) + 1 := by omega
         have hr1 : rowsF 9 vs (nth mm) = rowsF 9 vs (nth mm) := rfl
         rw [hae] at ha
         rw [hbe] at hb2
         obtain ⟨f1, f2⟩ := idxP_find (fun x => fitsC x a b) j
         refine sP (cw_seq (cw_block (zr (zm rfl (zS rfl (q_func_l rfl (.k rfl (.k rfl (.nil)))) ?_)))))
         refine sw_step rfl rfl rfl (q_call (CanCall.mk Tryz.call88) rfl (.k rfl (.k rfl (.nil))) (fun _ w1 hw => callq hw (hasJnt_index _ j _ _ (fun x => fitsC x a b) _ w1 (stb_arg hw hj) ⟨fun w' k => ⟨⟨(stb_blk (t := 27) hw (by exact .head _)).stb w' k, (stb_blk (t := 3) hw (by exact .tail _ (.head _))).stb w' k, (stb_own (e := 23) hw (by exact .tail _ (.tail _ (.head _)))).stb w' k⟩, (stb_own (e := 9) (l := a) hw (by rw [← hae]; exact .tail _ (.tail _ (.tail _ (rowsF_mem (by omega)))))).stb w' k, (stb_own (e := 9) (l := b) hw (by rw [← hbe]; exact .tail _ (.tail _ (.tail _ (rowsF_mem (by omega)))))).stb w' k, (stb_arg hw hji).stb w' k⟩⟩ (CanCall.mk Tryz.call89) (fitsAt_spec b6 bi so vs i (by omega) a b j)))) ?_
         refine za rfl (nP (cw_seq (zr (zm rfl (zS rfl (q_lss rfl rfl rfl) (sw_nil (post_then ?_)))))))
         refine cw_cond rfl (fun h6 => ?_) (fun h6 => ?_)
         · have hnone := f1 (by simpa using h6)
           have hsame : joinAt j mm i = mm := joinAt_no (by rw [hae, hbe]; exact hnone)
           have hjc2 : joinC j ll = joinF j (ll.length - 1 - (i + 1)) (i + 1) mm := by
             rw [hjc, hsucc]
             show (if _ then _ else _) = _
             rw [hsame, hae, hbe, if_neg (by omega)]
           refine cw_exit (post_then_x (post_blk_eq (post_then (cw_seq (zr ?_)))))
           refine zS rfl (q_loadC rfl rfl (by exact .tail _ (.head _)) rfl) ?_
           refine nP (cw_region ?_)
           refine sw_x rfl rfl rfl (e_alloc rfl) (fun b9 => ?_)
           refine sw_eff0 rfl rfl (e_store (i := 0) rfl rfl rfl rfl rfl rfl rfl rfl) (nP (cw_region ?_))
           refine zS rfl (q_loadC rfl rfl (by exact .head _) rfl) ?_
           refine zS rfl (q_add rfl rfl rfl (by intro hc; omega)) ?_
           refine sw_eff0 rfl rfl (e_store (i := 0) rfl rfl rfl rfl rfl rfl rfl rfl) (sw_nil ?_)
           refine post_next (i + 1, b9, vs, mm) (by exact .cons rfl (.cons rfl (.cons rfl .nil))) (fun w' h => ?_) ⟨by simp only; omega, hvn, hmn, hmb, hjc2⟩ (by simp only; omega)
           have h7 : Cl w [] (blk b9 [.int .i64 ((i + 1 : Nat) : Int)] 3 :: blk b6 [so.v] 27 :: blk bi [.int .i64 i] 3 :: ownL 23 so.v vs :: rowsF 9 vs (nth mm)) w' := h
           exact (h7.perm perm_three).tail
         · obtain ⟨f3, f4⟩ := f2 (by simpa using h6)
           have f5 : 0 ≤ idxP (fun x => fitsC x a b) j := by simpa using h6
           obtain ⟨x, hxe⟩ : ∃ x, nth j (idxP (fun x => fitsC x a b) j).toNat = x := ⟨_, rfl⟩
           have hxm : x ∈ j := by rw [← hxe]; exact nth_mem f3
           rw [hxe] at f4
           have hfit := List.find?_some f4
           have hxo := hjo x hxm
           have hst : stepJ j a b = (a.take (a.length - x.ll.length) ++ x.toll, x.torl ++ b.drop x.rl.length) := by unfold stepJ; rw [f4]
           have hJ1 := joinAt_1 (j := j) (ll := mm) (i := i) (by omega)
           have hJ2 := joinAt_2 (j := j) (ll := mm) (i := i) (by omega)
           rw [hae, hbe, hst] at hJ1 hJ2
           dsimp only at hJ1 hJ2
           simp only [fitsC, Bool.and_eq_true, decide_eq_true_eq] at hfit
           obtain ⟨⟨⟨q1, q2⟩, q3⟩, q4⟩ := hfit
           have hx1 : Stb w [] (RdL x.l.v x.ll) := stb_map (stb_mem hji hxm) fun _ h => h.1
           have hx2 : Stb w [] (RdL x.r.v x.rl) := stb_map (stb_mem hji hxm) fun _ h => h.2.1
           have hx3 : Stb w [] (RdL x.tol.v x.toll) := stb_map (stb_mem hji hxm) fun _ h => h.2.2.1
           have hx4 : Stb w [] (RdL x.tor.v x.torl) := stb_map (stb_mem hji hxm) fun _ h => h.2.2.2
           refine sP (zr (zm rfl (zm rfl ?_)))
           refine zS rfl (q_index rfl rfl rfl (stA (by assumption)) (by intro hc; omega)) ?_
           refine zS rfl (q_loadEl rfl rfl rfl (stA (by assumption)) (by intro hc; omega)) ?_
           rw [hxe]
           refine sw_x rfl rfl rfl (e_alloc rfl) (fun b11 => ?_)
           refine sw_eff0 rfl rfl (e_store (i := 0) rfl rfl rfl rfl rfl rfl rfl rfl) (nP (cw_seq ?_))
           refine cw_c (C' := Cl w [] (ownL 9 (nth vs i).v a :: ownL 9 (nth vs (i + 1)).v b :: blk b11 (enc x) 81 :: blk b6 [so.v] 27 :: blk bi [.int .i64 i] 3 :: ownL 23 so.v vs :: rowsO2 9 vs (nth mm) i (i + 1))) (fun w' h => ?_) ?_
           · have h7 : Cl w [] (blk b11 (enc x) 81 :: blk b6 [so.v] 27 :: blk bi [.int .i64 i] 3 :: ownL 23 so.v vs :: rowsF 9 vs (nth mm)) w' := h
             have p1 := (rowsF_out2 (e := 9) (vs := vs) (f := nth mm) (i := i) (j := i + 1) (by omega) (by omega) (by omega)).append_left [blk b11 (enc x) 81, blk b6 [so.v] 27, blk bi [.int .i64 i] 3, ownL 23 so.v vs]
             rw [hae, hbe] at p1
             exact h7.perm (p1.trans perm_two)
           refine cw_c (C' := fun w' => ((nth vs i).len = a.length ∧ (nth vs i).len ≤ (nth vs i).cap ∧ (nth vs i).cap ≤ maxLen) ∧ Cl w [] (ownL 9 (nth vs i).v a :: ownL 9 (nth vs (i + 1)).v b :: blk b11 (enc x) 81 :: blk b6 [so.v] 27 :: blk bi [.int .i64 i] 3 :: ownL 23 so.v vs :: rowsO2 9 vs (nth mm) i (i + 1)) w') (fun w' h => ⟨rd_lens (rd_own (e := 9) (l := a) h (.head _)), h⟩) (cw_imp fun hln => ?_)
           have hln1 := hln.1
           have e5 : (((nth vs i).len : Int) - (x.ll.length : Int)).toNat = a.length - x.ll.length := by omega
           refine cw_region_a (Cl w [] [blk b11 (enc x) 81, blk b6 [so.v] 27, blk bi [.int .i64 i] 3, ownL 23 so.v vs]) [20] mixed_Tryz ?_
           refine zk 0 (Cl.sel (by exact .take 2 rfl (.take 2 rfl (.take 2 rfl (.take 2 rfl (.nil _)))))) rfl (q_loadC rfl rfl (by exact .tail _ (.head _)) rfl) ?_
           refine zk 1 (Cl.sel (by exact .take 2 rfl (.take 2 rfl (.take 2 rfl (.take 2 rfl (.nil _)))))) rfl (q_loadC rfl rfl (by exact .tail _ (.tail _ (.head _))) rfl) ?_
           refine zk 2 (Cl.sel (by exact .take 2 rfl (.take 2 rfl (.take 2 rfl (.take 2 rfl (.nil _)))))) rfl (q_loadC rfl rfl (by exact .tail _ (.head _)) rfl) ?_
           refine zk 3 (Cl.sel (by exact .take 2 rfl (.take 2 rfl (.take 2 rfl (.take 2 rfl (.nil _)))))) rfl (q_loadC rfl rfl (by exact .tail _ (.tail _ (.head _))) rfl) ?_
           refine zk 4 (Cl.sel (by exact .take 2 rfl (.take 2 rfl (.take 2 rfl (.take 2 rfl (.nil _)))))) rfl (q_indexN rfl rfl rfl (rdO (by exact .tail _ (.tail _ (.tail _ (.head _))))) (by intro hc; omega)) ?_
           refine zk 5 (Cl.sel (by exact .take 2 rfl (.take 2 rfl (.take 2 rfl (.take 2 rfl (.nil _)))))) rfl (q_loadEl rfl rfl rfl (rdO (by exact .tail _ (.tail _ (.tail _ (.head _))))) (by intro hc; omega)) ?_
           refine zk 6 (Cl.sel (by exact .take 2 rfl (.take 2 rfl (.take 2 rfl (.take 2 rfl (.nil _)))))) rfl (q_loadC rfl rfl (by exact .tail _ (.head _)) rfl) ?_
           refine zk 7 (Cl.sel (by exact .take 2 rfl (.take 2 rfl (.take 2 rfl (.take 2 rfl (.nil _)))))) rfl (q_loadC rfl rfl (by exact .tail _ (.tail _ (.head _))) rfl) ?_
           refine zk 8 (Cl.sel (by exact .take 2 rfl (.take 2 rfl (.take 2 rfl (.take 2 rfl (.nil _)))))) rfl (q_indexN rfl rfl rfl (rdO (by exact .tail _ (.tail _ (.tail _ (.head _))))) (by intro hc; omega)) ?_
           refine zk 9 (Cl.sel (by exact .take 2 rfl (.take 2 rfl (.take 2 rfl (.take 2 rfl (.nil _)))))) rfl (q_loadEl rfl rfl rfl (rdO (by exact .tail _ (.tail _ (.tail _ (.head _))))) (by intro hc; omega)) ?_
           refine zk 10 (Cl.sel (by exact .take 2 rfl (.take 2 rfl (.take 2 rfl (.take 2 rfl (.nil _)))))) rfl (q_lenV rfl (.k rfl (.nil))) ?_
           refine zk 11 (Cl.sel (by exact .take 2 rfl (.take 2 rfl (.take 2 rfl (.take 2 rfl (.nil _)))))) rfl (q_fieldAddr rfl rfl) ?_
           refine zk 12 (Cl.sel (by exact .take 2 rfl (.take 2 rfl (.take 2 rfl (.take 2 rfl (.nil _)))))) rfl (q_loadC rfl rfl (by exact .head _) rfl) ?_
           refine zk 13 (Cl.sel (by exact .take 2 rfl (.take 2 rfl (.take 2 rfl (.take 2 rfl (.nil _)))))) rfl (q_len rfl (.k rfl (.nil)) (stA (by assumption))) ?_
           refine zp 14 rfl (q_sub rfl rfl rfl (by intro hc; omega)) ?_
           refine zk 16 (Cl.sel (by exact .take 2 rfl (.take 2 rfl (.take 2 rfl (.take 2 rfl (.nil _)))))) rfl (q_fieldAddr rfl rfl) ?_
           refine zk 17 (Cl.sel (by exact .take 2 rfl (.take 2 rfl (.take 2 rfl (.take 2 rfl (.nil _)))))) rfl (q_loadC rfl rfl (by exact .head _) rfl) ?_
           refine zk 15 (Cl.sel (by exact .take 2 rfl (.take 2 rfl (.take 2 rfl (.take 2 rfl (.nil _)))))) rfl (q_slicePH rfl rfl rfl hln (fun _ => by omega)) ?_
           refine aw_c (C' := Cl w [] (ownL 9 ((nth vs i).sub 1 0 (((nth vs i).len : Int) - (x.ll.length : Int)).toNat).v (a.take (a.length - x.ll.length)) :: ownL 9 (nth vs (i + 1)).v b :: blk b11 (enc x) 81 :: blk b6 [so.v] 27 :: blk bi [.int .i64 i] 3 :: ownL 23 so.v vs :: rowsO2 9 vs (nth mm) i (i + 1))) (fun w' h => by rw [e5]; exact own_shrink (by omega) h) ?_
           refine aw_x 18 (by kernel_rfl) rfl rfl rfl rfl (e_append (i := 0) rfl (.k rfl (.k rfl (.nil))) rfl rfl (stA (by assumption)) (by rw [List.length_take]; omega) rfl) (by intro hb; exact fun _ => (Cl.sel (by exact .take 2 rfl (.take 2 rfl (.take 2 rfl (.take 2 rfl (.nil _))))))) (fun s72 => ?_)
           refine zk 19 (Cl.sel (by exact .take 2 rfl (.take 2 rfl (.take 2 rfl (.take 2 rfl (.nil _)))))) rfl (q_indexN rfl rfl rfl (rdO (by exact .tail _ (.tail _ (.tail _ (.head _))))) (by intro hc; omega)) ?_
           refine aw_one0 20 (by kernel_rfl) rfl rfl rfl (e_storeEl1 (i := 5) rfl rfl rfl rfl rfl (by omega)) (by intro hb; (exact absurd hb (by decide))) ?_
           refine aw_end (by kernel_rfl) ?_
           refine post_then (cw_seq ?_)
           have hw1 : nth (vs.set i s72) ((i : Int) + 1).toNat = nth vs (i + 1) := nth_set_ne vs s72 (by omega : i + 1 ≠ i)
           have hl1 : (vs.set i s72).length = ll.length := by rw [List.length_set, hvn]
           have e6 : (x.rl.length : Int).toNat = x.rl.length := by omega
           refine cw_c (C' := Cl w [] (ownL 9 s72.v (a.take (a.length - x.ll.length) ++ x.toll) :: ownL 9 (nth vs (i + 1)).v b :: blk b11 (enc x) 81 :: blk b6 [so.v] 27 :: blk bi [.int .i64 i] 3 :: ownL 23 so.v (vs.set i s72) :: rowsO2 9 vs (nth mm) i (i + 1))) (fun w' h => h) (cw_region_a (Cl w [] [ownL 9 (nth vs (i + 1)).v b, blk b11 (enc x) 81, blk b6 [so.v] 27, blk bi [.int .i64 i] 3, ownL 23 so.v (vs.set i s72)]) [16, 17] mixed_Tryz ?_)
           refine zk 0 (Cl.sel (by exact .take 1 rfl (.take 1 rfl (.take 1 rfl (.take 1 rfl (.take 1 rfl (.nil _))))))) rfl (q_loadC rfl rfl (by exact .tail _ (.tail _ (.head _))) rfl) ?_
           refine zk 1 (Cl.sel (by exact .take 1 rfl (.take 1 rfl (.take 1 rfl (.take 1 rfl (.take 1 rfl (.nil _))))))) rfl (q_loadC rfl rfl (by exact .tail _ (.tail _ (.tail _ (.head _)))) rfl) ?_
           refine zp 2 rfl (q_add rfl rfl rfl (by intro hc; omega)) ?_
           refine zk 3 (Cl.sel (by exact .take 1 rfl (.take 1 rfl (.take 1 rfl (.take 1 rfl (.take 1 rfl (.nil _))))))) rfl (q_fieldAddr rfl rfl) ?_
           refine zk 4 (Cl.sel (by exact .take 1 rfl (.take 1 rfl (.take 1 rfl (.take 1 rfl (.take 1 rfl (.nil _))))))) rfl (q_loadC rfl rfl (by exact .tail _ (.head _)) rfl) ?_
           refine zk 6 (Cl.sel (by exact .take 1 rfl (.take 1 rfl (.take 1 rfl (.take 1 rfl (.take 1 rfl (.nil _))))))) rfl (q_loadC rfl rfl (by exact .tail _ (.tail _ (.head _))) rfl) ?_
           refine zk 7 (Cl.sel (by exact .take 1 rfl (.take 1 rfl (.take 1 rfl (.take 1 rfl (.take 1 rfl (.nil _))))))) rfl (q_loadC rfl rfl (by exact .tail _ (.tail _ (.tail _ (.head _)))) rfl) ?_
           refine zp 8 rfl (q_add rfl rfl rfl (by intro hc; omega)) ?_
           refine zk 9 (Cl.sel (by exact .take 1 rfl (.take 1 rfl (.take 1 rfl (.take 1 rfl (.take 1 rfl (.nil _))))))) rfl (q_indexN rfl rfl rfl (rdO (by exact .tail _ (.tail _ (.tail _ (.tail _ (.head _)))))) (by intro hc; (simp only [List.length_set, List.length_append, List.length_cons, List.length_nil, List.length_replicate, List.length_take, List.length_drop, List.length_map]; omega))) ?_
           refine zk 11 (Cl.sel (by exact .take 1 rfl (.take 1 rfl (.take 1 rfl (.take 1 rfl (.take 1 rfl (.nil _))))))) rfl (q_fieldAddr rfl rfl) ?_
           refine zk 12 (Cl.sel (by exact .take 1 rfl (.take 1 rfl (.take 1 rfl (.take 1 rfl (.take 1 rfl (.nil _))))))) rfl (q_loadC rfl rfl (by exact .tail _ (.head _)) rfl) ?_
           refine zk 13 (Cl.sel (by exact .take 1 rfl (.take 1 rfl (.take 1 rfl (.take 1 rfl (.take 1 rfl (.nil _))))))) rfl (q_len rfl (.k rfl (.nil)) (stA (by assumption))) ?_
           refine zk 10 (Cl.sel (by exact .take 1 rfl (.take 1 rfl (.take 1 rfl (.take 1 rfl (.take 1 rfl (.nil _))))))) rfl (q_loadElY hw1 rfl rfl rfl (rdO (by exact .tail _ (.tail _ (.tail _ (.tail _ (.head _)))))) (by intro hc; omega)) ?_
           refine zk 14 (Cl.sel (by exact .take 1 rfl (.take 1 rfl (.take 1 rfl (.take 1 rfl (.take 1 rfl (.nil _))))))) rfl (q_sliceL rfl rfl rfl (rdO (by exact .head _)) (by intro hc; omega)) ?_
           refine aw_x 5 (by kernel_rfl) rfl rfl rfl rfl (e_call (CanCall.mk Tryz.call87) rfl (.k rfl (.nil)) (fun w1 hw => cloneL_spec _ x.torl (by omega) w1 (stb_arg hw hx4))) (by intro hb; exact fun _ w h => (Cl.sel (by exact .take 2 rfl (.take 2 rfl (.take 2 rfl (.take 2 rfl (.take 2 rfl (.nil _))))))) w h.2) (fun s79 => ?_)
           refine aw_imp fun _ => ?_
           refine aw_x 15 (by kernel_rfl) rfl rfl rfl rfl (e_append (i := 0) (r := b.drop x.rl.length) rfl (.k rfl (.k rfl (.nil))) rfl rfl (fun w1 h1 => rd_dropS (rd_own (e := 9) (l := b) h1 (by exact .tail _ (.tail _ (.head _)))) q2) (by rw [List.length_drop]; omega) rfl) (by intro hb; exact fun _ => (Cl.sel (by exact .take 2 rfl (.take 2 rfl (.take 2 rfl (.take 2 rfl (.take 2 rfl (.nil _)))))))) (fun s89 => ?_)
           have ei : ((i : Int) + 1).toNat = i + 1 := by omega
           have hy1 : nth ((vs.set i s72).set ((i : Int) + 1).toNat s89) i = s72 := by rw [ei, nth_set_ne _ _ (by omega), nth_set_eq _ (by omega)]
           have hy2 : nth ((vs.set i s72).set ((i : Int) + 1).toNat s89) ((i : Int) + 1).toNat = s89 := by rw [ei, nth_set_eq _ (by omega)]
           have hl2 : ((vs.set i s72).set ((i : Int) + 1).toNat s89).length = ll.length := by rw [List.length_set, hl1]
           refine aw_q 16 (by kernel_rfl) rfl rfl rfl rfl (OpR.q (q_indexN rfl rfl rfl (rdO (by exact .tail _ (.tail _ (.tail _ (.tail _ (.tail _ (.tail _ (.head _)))))))) (by intro hc; (simp only [List.length_set, List.length_append, List.length_cons, List.length_nil, List.length_replicate, List.length_take, List.length_drop, List.length_map]; omega)))) (by intro hb; (exact absurd hb (by decide))) ?_
           refine aw_one0 17 (by kernel_rfl) rfl rfl rfl (e_storeEl1 (i := 6) rfl rfl rfl rfl rfl (by (simp only [List.length_set, List.length_append, List.length_cons, List.length_nil, List.length_replicate, List.length_take, List.length_drop, List.length_map]; omega))) (by intro hb; (exact absurd hb (by decide))) ?_
           refine aw_end (by kernel_rfl) ?_
           refine post_then (zr ?_)
           refine zS rfl (q_loadC rfl rfl (by exact .tail _ (.tail _ (.tail _ (.tail _ (.head _))))) rfl) ?_
           refine zS rfl (q_loadC rfl rfl (by exact .tail _ (.tail _ (.tail _ (.tail _ (.tail _ (.head _)))))) rfl) ?_
           refine zS rfl (q_indexN rfl rfl rfl (rdO (by exact .tail _ (.tail _ (.tail _ (.tail _ (.tail _ (.tail _ (.head _)))))))) (by intro hc; (simp only [List.length_set, List.length_append, List.length_cons, List.length_nil, List.length_replicate, List.length_take, List.length_drop, List.length_map]; omega))) ?_
           refine zS rfl (q_loadElY hy1 rfl rfl rfl (rdO (by exact .tail _ (.tail _ (.tail _ (.tail _ (.tail _ (.tail _ (.head _)))))))) (by intro hc; omega)) ?_
           refine zS rfl (q_len rfl (.k rfl (.nil)) (rdO (by exact .tail _ (.head _)))) ?_
           refine zS rfl (q_gtr rfl rfl rfl) (zm rfl ?_)
           refine zS rfl (q_loadC rfl rfl (by exact .tail _ (.tail _ (.tail _ (.tail _ (.head _))))) rfl) ?_
           refine zS rfl (q_loadC rfl rfl (by exact .tail _ (.tail _ (.tail _ (.tail _ (.tail _ (.head _)))))) rfl) ?_
           refine zS rfl (q_add rfl rfl rfl (by intro hc; omega)) ?_
           refine zS rfl (q_indexN rfl rfl rfl (rdO (by exact .tail _ (.tail _ (.tail _ (.tail _ (.tail _ (.tail _ (.head _)))))))) (by intro hc; (simp only [List.length_set, List.length_append, List.length_cons, List.length_nil, List.length_replicate, List.length_take, List.length_drop, List.length_map]; omega))) ?_
           refine zS rfl (q_loadElY hy2 rfl rfl rfl (rdO (by exact .tail _ (.tail _ (.tail _ (.tail _ (.tail _ (.tail _ (.head _)))))))) (by intro hc; omega)) ?_
           refine zS rfl (q_len rfl (.k rfl (.nil)) (rdO (by exact .head _))) ?_
           refine zS rfl (q_gtr rfl rfl rfl) (zS rfl (q_or2 rfl rfl rfl) (nP ?_))
           refine cw_cond rfl (fun h7 => ?_) (fun h7 => ?_)
           · have hjc2 : joinC j ll = none := by
               rw [hjc, hsucc]
               show (if _ then _ else _) = _
               rw [hJ1, hJ2, if_pos]
               simp only [Bool.or_eq_true, decide_eq_true_eq] at h7
               omega
             have e1 : joinE j ll = 4 := by rw [e0, hjc2]
             have e2 : joinR j ll = [] := by unfold joinR; rw [if_neg (by rw [e1]; decide)]
             refine zr (za rfl (za rfl (nP (cw_ret (post_blk_r (post_then_r (post_then_r (post_blk_r (post_then_r (post_ret2 rfl (resOk_tmp rfl) (resOk_tmp rfl) ?_))))))))))
             exact fun w' hw => ⟨⟨none, 0, 0⟩, by rw [e1]; rfl, trivial, by rw [e2]; exact frz_nil hw⟩
           · simp only [Bool.or_eq_false_iff, decide_eq_false_iff_not] at h7
             have hjc2 : joinC j ll = joinF j (ll.length - 1 - (i + 1)) (i + 1) (joinAt j mm i) := by
               rw [hjc, hsucc]
               show (if _ then _ else _) = _
               rw [hJ1, hJ2, if_neg (by omega)]
             have hmb2 : ∀ l ∈ joinAt j mm i, l.length ≤ 120 := by
               intro l hl
               have h8 : l ∈ mm ∨ l = (stepJ j a b).1 ∨ l = (stepJ j a b).2 := by
                 unfold joinAt at hl
                 rw [hae, hbe] at hl
                 rcases List.mem_or_eq_of_mem_set hl with h9 | h9
                 · rcases List.mem_or_eq_of_mem_set h9 with h10 | h10
                   · exact .inl h10
                   · exact .inr (.inl h10)
                 · exact .inr (.inr h9)
               rcases h8 with h8 | h8 | h8
               · exact hmb l h8
               · rw [h8, hst]; dsimp only; omega
               · rw [h8, hst]; dsimp only; omega
             refine cw_skip (post_blk (post_then (cw_seq (zr ?_))))
             refine zS rfl (q_loadC rfl rfl (by exact .tail _ (.tail _ (.tail _ (.tail _ (.tail _ (.head _)))))) rfl) ?_
             refine nP (cw_region ?_)
             refine sw_x rfl rfl rfl (e_alloc rfl) (fun b9 => ?_)
             refine sw_eff0 rfl rfl (e_store (i := 0) rfl rfl rfl rfl rfl rfl rfl rfl) (nP (cw_region ?_))
             refine zS rfl (q_loadC rfl rfl (by exact .head _) rfl) ?_
             refine zS rfl (q_add rfl rfl rfl (by intro hc; omega)) ?_
             refine sw_eff0 rfl rfl (e_store (i := 0) rfl rfl rfl rfl rfl rfl rfl rfl) (sw_nil ?_)
             refine post_next (i + 1, b9, (vs.set i s72).set ((i : Int) + 1).toNat s89, joinAt j mm i) (by exact .cons rfl (.cons rfl (.cons rfl .nil))) (fun w' h => ?_) ⟨by simp only; omega, hl2, by simp only; rw [joinAt_len]; exact hmn, hmb2, hjc2⟩ (by simp only; omega)
             have h9 : Cl w [] (blk b9 [.int .i64 ((i + 1 : Nat) : Int)] 3 :: ownL 9 s89.v (x.torl ++ b.drop x.rl.length) :: ownL 9 s72.v (a.take (a.length - x.ll.length) ++ x.toll) :: ownL 9 (nth vs (i + 1)).v b :: blk b11 (enc x) 81 :: blk b6 [so.v] 27 :: blk bi [.int .i64 i] 3 :: ownL 23 so.v ((vs.set i s72).set ((i : Int) + 1).toNat s89) :: rowsO2 9 vs (nth mm) i (i + 1)) w' := h
             have p1 := rowsF_out2 (e := 9) (vs := (vs.set i s72).set ((i : Int) + 1).toNat s89) (f := nth (joinAt j mm i)) (i := i) (j := i + 1) (by omega) (by omega) (by omega)
             rw [hJ1, hJ2, hy1] at p1
             have hy3 := hy2
             rw [ei] at hy3
             rw [ei] at p1 h9 ⊢
             rw [hy3, rowsO2_congr (vs := vs) (f := nth mm) (by simp) (fun k k1 k2 k3 => ⟨by unfold joinAt; rw [nth_set_ne _ _ k3, nth_set_ne _ _ k2], by rw [nth_set_ne _ _ k3, nth_set_ne _ _ k2]⟩)] at p1
             exact cl_fin h9 p1
       · have hi : ll.length ≤ i + 1 := by simp at h5; omega
         have hjc2 : joinC j ll = some mm := by rw [hjc, show ll.length - 1 - i = 0 by omega]; rfl
         have e1 : joinE j ll = 0 := by rw [e0, hjc2]
         have e2 : joinR j ll = mm := by unfold joinR; rw [if_pos e1, hjc2]; rfl
         refine cw_exit (post_then_x (post_then_x (post_blk_eq (post_then (zr ?_)))))
         refine zS rfl (q_loadC rfl rfl (by exact .head _) rfl) ?_
         refine za rfl (za rfl (nP (cw_ret (post_ret2 rfl (resOk_tmp rfl) (resOk_tmp rfl) ?_))))
         refine fun w' hw => ⟨so, by rw [e1], trivial, ?_⟩
         rw [e2]
         have h7 : Cl w [] (blk b6 [so.v] 27 :: blk bi [.int .i64 i] 3 :: ownL 23 so.v vs :: rowsF 9 vs (nth mm)) w' := hw
         exact (Cl.frz (H := ownL 23 so.v vs :: rowsF 9 vs (nth mm)) (F := []) (by rw [List.append_nil]; exact h7.tail.tail) fun w' bs ⟨c1, c2, _, k1, k2⟩ => ⟨vs, ownL.rd k1, rows_rd (by omega) k2⟩)
end Go.Proofs.YtkmbliojafefdaaGreatDoor

/- Maps whose values are slices of our own. General lemmas, no program text. -/
set_option autoImplicit false
set_option linter.unusedSectionVars false
namespace Go.Sx
variable {κ α : Type} [DecidableEq κ] [Enc α] {e : TypeId} {f f' : κ → List α} {m : List (κ × SlV)} {k : κ} {s : SlV}
def rowsK (e : TypeId) (m : List (κ × SlV)) (f : κ → List α) : List Asn := m.map fun kv => ownL e kv.2.v (f kv.1)
def eraseK (m : List (κ × SlV)) (k : κ) : List (κ × SlV) := m.filter fun kv => !decide (kv.1 = k)
theorem eraseK_none : ∀ {m : List (κ × SlV)}, k ∉ m.map (·.1) → eraseK m k = m
 | [], _ => rfl
 | x :: m, h => by
   simp only [List.map_cons, List.mem_cons, not_or] at h
   have h1 : ¬ x.1 = k := fun e => h.1 e.symm
   unfold eraseK
   rw [List.filter_cons, if_pos (by simp [h1])]
   exact congrArg _ (eraseK_none h.2)
theorem upd_perm : ∀ {m : List (κ × SlV)}, (m.map (·.1)).Nodup → (upd m k s).Perm ((k, s) :: eraseK m k)
 | [], _ => .refl _
 | x :: m, h => by
   have h2 := List.nodup_cons.1 h
   unfold upd
   by_cases h1 : x.1 = k
   · have h3 : eraseK (x :: m) k = m := by
       unfold eraseK
       rw [List.filter_cons, if_neg (by simp [h1])]
       exact eraseK_none (by rw [← h1]; exact h2.1)
     rw [h3]; simp [h1]
   · have h3 : eraseK (x :: m) k = x :: eraseK m k := by
       unfold eraseK
       rw [List.filter_cons, if_pos (by simp [h1])]
     rw [h3]; simp only [if_neg h1]
     exact ((upd_perm (m := m) h2.2).cons x).trans (.swap _ _ _)
theorem get_perm : ∀ {m : List (κ × SlV)}, (m.map (·.1)).Nodup → get? m k = some s → m.Perm ((k, s) :: eraseK m k)
 | [], _, h => by simp [get?] at h
 | x :: m, hn, h => by
   have h2 := List.nodup_cons.1 hn
   by_cases h1 : x.1 = k
   · have h3 : eraseK (x :: m) k = m := by
       unfold eraseK
       rw [List.filter_cons, if_neg (by simp [h1])]
       exact eraseK_none (by rw [← h1]; exact h2.1)
     simp [get?, h1] at h
     rw [h3, ← h, ← h1]
   · have h3 : eraseK (x :: m) k = x :: eraseK m k := by
       unfold eraseK
       rw [List.filter_cons, if_pos (by simp [h1])]
     simp [get?, h1] at h
     rw [h3]
     exact ((get_perm (m := m) h2.2 h).cons x).trans (.swap _ _ _)
theorem rowsK_congr (h : ∀ kv ∈ m, f' kv.1 = f kv.1) : rowsK e m f' = rowsK e m f := List.map_congr_left fun kv hk => by rw [h kv hk]
theorem eraseK_ne {kv : κ × SlV} (h : kv ∈ eraseK m k) : kv.1 ≠ k := by
 unfold eraseK at h
 simp at h
 exact h.2
variable {w0 w : World} {fp : List Nat} {H : List Asn}
theorem open_row (hn : (m.map (·.1)).Nodup) (hf : get? m k = none → f k = []) (h : Cl w0 fp (H ++ rowsK e m f) w) : Cl w0 fp (ownL e (getZ default m k).v (f k) :: (H ++ rowsK e (eraseK m k) f)) w := by
 cases hg : get? m k with
 | none =>
   have h1 := get?_none.1 hg
   rw [eraseK_none h1, hf hg]
   have e1 : (getZ default m k : SlV) = ⟨none, 0, 0⟩ := by simp [getZ, hg]; rfl
   rw [e1]
   exact Cl.addNil e h
 | some s =>
   have e1 : (getZ default m k : SlV) = s := by simp [getZ, hg]
   rw [e1]
   have p1 : (rowsK e m f).Perm (ownL e s.v (f k) :: rowsK e (eraseK m k) f) := (get_perm hn hg).map _
   exact h.perm ((p1.append_left H).trans List.perm_middle)
theorem shut_row {l : List α} (hn : (m.map (·.1)).Nodup) (hf : ∀ k', k' ≠ k → f' k' = f k') (hl : f' k = l) (h : Cl w0 fp (ownL e s.v l :: (H ++ rowsK e (eraseK m k) f)) w) : Cl w0 fp (H ++ rowsK e (upd m k s) f') w := by
 have p1 : (rowsK e (upd m k s) f').Perm (ownL e s.v l :: rowsK e (eraseK m k) f) := by
   have p2 : (rowsK e (upd m k s) f').Perm (ownL e s.v (f' k) :: rowsK e (eraseK m k) f') := (upd_perm hn).map _
   rw [hl, rowsK_congr (f' := f') (f := f) fun kv hk => hf _ (eraseK_ne hk)] at p2
   exact p2
 exact h.perm (List.perm_middle.symm.trans (p1.symm.append_left H))
theorem rowsK_mem {kv : κ × SlV} (h : kv ∈ m) : ownL e kv.2.v (f kv.1) ∈ rowsK e m f := List.mem_map_of_mem h
theorem rowsK_frz (h : Cl w0 fp (H ++ rowsK e m f) w) : Cl w0 fp (H ++ [Sx.frz fun w => ∀ kv ∈ m, RdL kv.2.v (f kv.1) w]) w := by
 have h1 : Cl w0 fp (rowsK e m f ++ H) w := h.perm List.perm_append_comm
 have h2 := Cl.frz (R := fun w => ∀ kv ∈ m, RdL kv.2.v (f kv.1) w) h1 fun w bs hs kv hk => by
   have : ∀ {L : List Asn} {bs : List Nat}, Sep L w bs → ∀ A ∈ L, ∃ b, A.holds w b := by
     intro L
     induction L with
     | nil => intro bs _ A hA; simp at hA
     | cons X L ih =>
       rintro bs ⟨b1, b2, rfl, k1, k2⟩ A hA
       rcases List.mem_cons.1 hA with rfl | hA
       · exact ⟨_, k1⟩
       · exact ih k2 A hA
   obtain ⟨b, hb⟩ := this hs _ (rowsK_mem hk)
   exact ownL.rd hb
 exact h2.perm (by simpa using (List.perm_append_comm (l₁ := [Sx.frz _]) (l₂ := H)))
end Go.Sx

set_option autoImplicit false
set_option maxRecDepth 100000
namespace Go.Proofs.YtkmbliojafefdaaGreatDoor
open Go.Sx
open Enc (enc val)
structure TT where
 a1 : Int
 c1 : Int
 a2 : Int
 c2 : Int
deriving DecidableEq
instance : Inhabited TT := ⟨⟨0, 0, 0, 0⟩⟩
instance : Enc TT := ⟨fun u => [.int .i64 u.a1, .int .i32 u.c1, .int .i64 u.a2, .int .i32 u.c2], 4, fun u => .agg #[.int .i64 u.a1, .int .i32 u.c1, .int .i64 u.a2, .int .i32 u.c2], fun _ => rfl, by simp [Value.oneCell'], fun _ => rfl, by decide⟩
instance : ArT Tryz.prog 211 2 [.int .i64 0, .int .i32 0, .int .i64 0, .int .i32 0] := ⟨fun _ => by kernel_rfl⟩
structure Tly where
 t : TT
 p : SlV
 n : Int
 m : Int
 pl : List ByteArray
instance : Inhabited Tly := ⟨⟨default, default, 0, 0, []⟩⟩
instance : Enc Tly := ⟨fun u => [.int .i64 u.t.a1, .int .i32 u.t.c1, .int .i64 u.t.a2, .int .i32 u.t.c2, u.p.v, .int .i64 u.n, .int .i64 u.m], 7, fun u => .agg #[.int .i64 u.t.a1, .int .i32 u.t.c1, .int .i64 u.t.a2, .int .i32 u.t.c2, u.p.v, .int .i64 u.n, .int .i64 u.m], fun _ => rfl, by simp [Value.oneCell', SlV.v], fun _ => rfl, by decide⟩
instance : HasTy Tryz.prog 213 Tly := hasTy_agg Tryz.sizeOf213 Tryz.isAgg213 (fun _ => rfl)
structure Ety where
 word : ByteArray
 p : SlV
 s : SlV
 sl : List (List ByteArray)
 pl : List ByteArray
instance : Inhabited Ety := ⟨⟨default, default, default, [], []⟩⟩
instance : Enc Ety := ⟨fun u => [.string u.word, u.p.v, u.s.v], 3, fun u => .agg #[.string u.word, u.p.v, u.s.v], fun _ => rfl, by simp [Value.oneCell', SlV.v], fun _ => rfl, by decide⟩
instance : HasTy Tryz.prog 153 Ety := hasTy_agg Tryz.sizeOf153 Tryz.isAgg153 (fun _ => rfl)
instance : DecidableEq Rn := fun a b => decidable_of_iff (a.v = b.v) ⟨fun h => by cases a; cases b; simp at h; rw [h], fun h => by rw [h]⟩
instance : KeyT Tryz.prog 21 Rn := keyT_basic Tryz.underlying21 (fun _ => rfl) (fun k k' => by
 obtain ⟨a⟩ := k
 obtain ⟨b⟩ := k'
 simp [Enc.val, Instr.sameNow, eq_comm, BEq.beq])
theorem chk211 (k : TT) (em : Bool) (w : World) : (Instr.checkKey em 10000 211 (val k)).run Tryz.prog w = .ok () w := by kernel_rfl
theorem eq109 (a c a' c' : Int) (w : World) : (Op.equalIn 9999 109 (.agg #[.int .i64 a, .int .i32 c]) (.agg #[.int .i64 a', .int .i32 c'])).run Tryz.prog w = .ok (decide (a' = a ∧ c' = c)) w := by
 simp [go_sem]
 by_cases h1 : a = a' <;> by_cases h2 : c = c' <;> simp [h1, h2] <;> omega
theorem eq211 (k k' : TT) (w : World) : (Op.equal 211 (val k) (val k')).run Tryz.prog w = .ok (decide (k' = k)) w := by
 obtain ⟨a1, a2, a3, a4⟩ := k
 obtain ⟨b1, b2, b3, b4⟩ := k'
 obtain ⟨i, hi⟩ : ∃ i, Tryz.prog.info? 109 = some i := Option.isSome_iff_exists.1 (by kernel_rfl)
 have hc : Tryz.prog.cellsOf 109 = 2 := by kernel_rfl
 have p0 : ∀ w, (part 109 #[.int .i64 a1, .int .i32 a2, .int .i64 a3, .int .i32 a4] 0).run Tryz.prog w = .ok (.agg #[.int .i64 a1, .int .i32 a2]) w := fun w => by kernel_rfl
 have p1 : ∀ w, (part 109 #[.int .i64 a1, .int .i32 a2, .int .i64 a3, .int .i32 a4] 2).run Tryz.prog w = .ok (.agg #[.int .i64 a3, .int .i32 a4]) w := fun w => by kernel_rfl
 have q0 : ∀ w, (part 109 #[.int .i64 b1, .int .i32 b2, .int .i64 b3, .int .i32 b4] 0).run Tryz.prog w = .ok (.agg #[.int .i64 b1, .int .i32 b2]) w := fun w => by kernel_rfl
 have q1 : ∀ w, (part 109 #[.int .i64 b1, .int .i32 b2, .int .i64 b3, .int .i32 b4] 2).run Tryz.prog w = .ok (.agg #[.int .i64 b3, .int .i32 b4]) w := fun w => by kernel_rfl
 show (Op.equalIn (9999 + 1) 211 (.agg #[.int .i64 a1, .int .i32 a2, .int .i64 a3, .int .i32 a4]) (.agg #[.int .i64 b1, .int .i32 b2, .int .i64 b3, .int .i32 b4])).run Tryz.prog w = _
 rw [run_equalIn_array (w := w) 9999 _ _ Tryz.underlying211 hi, hc]
 have hr : List.range 2 = [0, 1] := rfl
 rw [hr]
 simp only [Op.eqItems, Sem.run_bind, Nat.zero_mul, Nat.one_mul, p0, p1, q0, q1, eq109, Result.andThen_ok]
 by_cases h1 : b1 = a1 ∧ b2 = a2
 · obtain ⟨rfl, rfl⟩ := h1
   by_cases h2 : b3 = a3 ∧ b4 = a4
   · simp [h2.1, h2.2, p1, eq109, Result.andThen]
   · simp [h2, p1, q1, eq109, Result.andThen]
 · simp [h1, Result.andThen]
   intro e1 e2; exact absurd ⟨e1, e2⟩ h1
instance : KeyT Tryz.prog 211 TT where
 chk k em w := chk211 k em w
 find {ν _} k es w := by
   rw [run_findKey_eq w (by rw [Tryz.underlying211])]
   have key : ∀ (es : Ents TT ν) (j : Nat), (Instr.findAsking 211 (val k) (es.map rawE) j).run Tryz.prog w = .ok ((findK k es j).map fun p => (p.1, val p.2)) w := by
     intro es
     induction es with
     | nil => intro j; rfl
     | cons x es ih =>
       intro j
       have h1 := eq211 k x.1 w
       have h2 := ih (j + 1)
       simp only [List.map_cons, Instr.findAsking, Sem.run_bind, findK]
       rw [show (rawE x).key = val x.1 from rfl, h1]
       simp only [Result.andThen_ok]
       by_cases hx : x.1 = k
       · simp [hx, rawE]
       · simp [hx, h2]
   exact key es 0
 stays k w := by
   have h1 : ∀ n : Nat, Instr.sameBits (n + 1 + 1) (Value.agg #[.int .i64 k.a1, .int .i32 k.c1, .int .i64 k.a2, .int .i32 k.c2]) (Value.agg #[.int .i64 k.a1, .int .i32 k.c1, .int .i64 k.a2, .int .i32 k.c2]) = true := fun n => by simp [Instr.sameBits]
   have h2 : Instr.sameBits 10000 (val k) (val k) = true := h1 9998
   unfold Instr.keyThatStays
   rw [h2]; rfl
end Go.Proofs.YtkmbliojafefdaaGreatDoor

set_option autoImplicit false
set_option maxRecDepth 100000
namespace Go.Proofs.YtkmbliojafefdaaGreatDoor
open Go.Sx
open Enc (enc val)
def joinS (l : List ByteArray) : ByteArray := ⟨(Lib.join (l.map (·.data.toList)) [32]).toArray⟩
theorem tail_len (r : List (List UInt8)) {B : Nat} (h : ∀ x ∈ r, x.length ≤ B) : (Lib.joinTail [32] r).length ≤ r.length * (B + 1) := by
 induction r with
 | nil => simp [Lib.joinTail]
 | cons x r ih =>
   have h1 := ih fun y hy => h y (.tail _ hy)
   have h2 := h x (.head _)
   simp only [Lib.joinTail, List.map_cons, List.flatten_cons, List.length_append, List.length_cons, List.length_nil] at h1 ⊢
   rw [Nat.succ_mul]
   omega
theorem join_len (l : List (List UInt8)) {B : Nat} (h : ∀ x ∈ l, x.length ≤ B) : (Lib.join l [32]).length ≤ l.length * (B + 1) := by
 cases l with
 | nil => simp [Lib.join_nil]
 | cons x r =>
   rw [Lib.join_cons, List.length_append, List.length_cons, Nat.succ_mul]
   have h1 := tail_len r fun y hy => h y (.tail _ hy)
   have h2 := h x (.head _)
   omega
theorem split32 : ∀ {a b s t : List UInt8}, (32 : UInt8) ∉ a → (32 : UInt8) ∉ b → (s = [] ∨ s.head? = some 32) → (t = [] ∨ t.head? = some 32) → a ++ s = b ++ t → a = b ∧ s = t
 | [], [], s, t, _, _, _, _, h => ⟨rfl, by simpa using h⟩
 | [], y :: b, s, t, _, hb, hs, _, h => by
   exfalso
   rcases hs with rfl | hs
   · simp at h
   · simp only [List.nil_append] at h
     rw [h] at hs
     simp at hs
     exact hb (by rw [hs]; exact .head _)
 | x :: a, [], s, t, ha, _, _, ht, h => by
   exfalso
   rcases ht with rfl | ht
   · simp at h
   · simp only [List.nil_append] at h
     rw [← h] at ht
     simp at ht
     exact ha (by rw [ht]; exact .head _)
 | x :: a, y :: b, s, t, ha, hb, hs, ht, h => by
   simp only [List.cons_append, List.cons.injEq] at h
   obtain ⟨rfl, h⟩ := h
   have := split32 (fun h => ha (.tail _ h)) (fun h => hb (.tail _ h)) hs ht h
   exact ⟨by rw [this.1], this.2⟩
theorem tail_head (r : List (List UInt8)) : Lib.joinTail [32] r = [] ∨ (Lib.joinTail [32] r).head? = some 32 := by
 cases r with
 | nil => left; rfl
 | cons x r => right; simp [Lib.joinTail]
theorem tail_inj : ∀ {r q : List (List UInt8)}, (∀ x ∈ r, (32 : UInt8) ∉ x) → (∀ x ∈ q, (32 : UInt8) ∉ x) → Lib.joinTail [32] r = Lib.joinTail [32] q → r = q
 | [], [], _, _, _ => rfl
 | [], y :: q, _, _, h => by simp [Lib.joinTail] at h
 | x :: r, [], _, _, h => by simp [Lib.joinTail] at h
 | x :: r, y :: q, hr, hq, h => by
   have e1 : Lib.joinTail [32] (x :: r) = 32 :: (x ++ Lib.joinTail [32] r) := by simp [Lib.joinTail]
   have e2 : Lib.joinTail [32] (y :: q) = 32 :: (y ++ Lib.joinTail [32] q) := by simp [Lib.joinTail]
   rw [e1, e2, List.cons.injEq] at h
   obtain ⟨h1, h2⟩ := split32 (hr x (.head _)) (hq y (.head _)) (tail_head r) (tail_head q) h.2
   rw [h1, tail_inj (fun z hz => hr z (.tail _ hz)) (fun z hz => hq z (.tail _ hz)) h2]
theorem phone_bytes {x : ByteArray} (h : phoneOk x = true) : x.data.toList ≠ [] ∧ (32 : UInt8) ∉ x.data.toList := by
 simp only [phoneOk, Bool.and_eq_true, decide_eq_true_eq, Bool.not_eq_true', List.any_eq_false, List.mem_range] at h
 obtain ⟨⟨h1, h2⟩, h3⟩ := h
 have hsz : x.data.toList.length = x.size := Array.length_toList
 refine ⟨fun e => by rw [e] at hsz; simp at hsz; omega, fun hm => ?_⟩
 obtain ⟨k, hk, he⟩ := List.getElem_of_mem hm
 have h4 := h3 k (by omega)
 have h5 : byteAt x k = 32 := by
   unfold byteAt
   rw [getElem?_pos x k (by omega)]
   show (x.data[k]).toNat = 32
   have : x.data[k]'(by simpa using hk) = 32 := by simpa using he
   rw [this]; rfl
 rw [h5] at h4
 exact h4 (by decide)
theorem joinS_inj {l m : List ByteArray} (hl : ∀ x ∈ l, phoneOk x = true) (hm : ∀ x ∈ m, phoneOk x = true) (h : joinS l = joinS m) : l = m := by
 have h1 : Lib.join (l.map (·.data.toList)) [32] = Lib.join (m.map (·.data.toList)) [32] := by
   have := congrArg (fun b : ByteArray => b.data.toList) h
   simpa [joinS] using this
 have hinj : ∀ a b : ByteArray, a.data.toList = b.data.toList → a = b := fun a b e => str_inj (by rw [ba_toList, ba_toList, e])
 have hmi : l.map (·.data.toList) = m.map (·.data.toList) → l = m := fun e => (List.map_inj_right fun a b => hinj a b).1 e
 cases l with
 | nil =>
   cases m with
   | nil => rfl
   | cons y m =>
     exfalso
     rw [List.map_nil, List.map_cons, Lib.join_nil, Lib.join_cons] at h1
     have := (phone_bytes (hm y (.head _))).1
     have h2 := (List.append_eq_nil_iff.1 h1.symm).1
     exact this h2
 | cons x l =>
   cases m with
   | nil =>
     exfalso
     rw [List.map_nil, List.map_cons, Lib.join_nil, Lib.join_cons] at h1
     exact (phone_bytes (hl x (.head _))).1 (List.append_eq_nil_iff.1 h1).1
   | cons y m =>
     apply hmi
     rw [List.map_cons, List.map_cons, Lib.join_cons, Lib.join_cons] at h1
     obtain ⟨h2, h3⟩ := split32 (phone_bytes (hl x (.head _))).2 (phone_bytes (hm y (.head _))).2 (tail_head _) (tail_head _) h1
     rw [List.map_cons, List.map_cons, h2, tail_inj (fun z hz => by
       obtain ⟨u, hu, rfl⟩ := List.mem_map.1 hz
       exact (phone_bytes (hl u (.tail _ hu))).2) (fun z hz => by
       obtain ⟨u, hu, rfl⟩ := List.mem_map.1 hz
       exact (phone_bytes (hm u (.tail _ hu))).2) h3]
theorem joinS_spec (s : SlV) (l : List ByteArray) (hsp : SpotOk s) (hl : l.length ≤ 1000) (hz : ∀ x ∈ l, phoneOk x = true) (w : World) (hs : Stb w [] (RdL s.v l)) : Calls Tryz.prog 185 #[s.v, .string ⟨#[32]⟩] w fun e w' => e = .returned (.string (joinS l)) ∧ Cl w [] [] w' := by
 obtain ⟨ad, n, c⟩ := s
 have h1 := rd_lens hs.here
 dsimp only at h1
 cases l with
 | nil =>
   obtain rfl : n = 0 := by simpa using h1.1
   exact (Tryz.strings_Join_none ad c ⟨#[32]⟩ w).mono fun e w' ⟨h2, h3⟩ => ⟨h2, by rw [h3]; exact Cl.start0 w⟩
 | cons x l =>
   obtain ⟨a, n', c', e1, e2, e3, e4, e5⟩ := hs.here
   simp only [SlV.v, Value.slice.injEq] at e1
   obtain ⟨rfl, rfl, rfl⟩ := e1
   obtain ⟨b, hb, hc⟩ := e5 0 x 0 (.string x) rfl rfl
   subst hb
   obtain ⟨bk, o, sp⟩ := b
   have hsp2 : sp = none := hsp _ rfl
   subst hsp2
   have hcl := fun (j : Nat) (y : ByteArray) (hj : (x :: l)[j]? = some y) => e5 j y 0 (.string y) hj rfl
   have hszd : ∀ y : ByteArray, y.data.toList.length = y.size := fun y => Array.length_toList
   have hlen := join_len ((x :: l).map (·.data.toList)) (B := 8) (fun y hy => by
     obtain ⟨u, hu, rfl⟩ := List.mem_map.1 hy
     have := hz u hu
     simp only [phoneOk, Bool.and_eq_true, decide_eq_true_eq] at this
     rw [hszd]; omega)
   rw [List.length_map] at hlen
   have hN : (x :: l).length * (8 + 1) ≤ 9000 := by omega
   have := Tryz.strings_Join bk o c (x :: l) ⟨#[32]⟩ w (fun j y hj => by
     obtain ⟨b', hb', hc'⟩ := hcl j y hj
     cases hb'
     rw [addr_add] at hc'
     have e : j * Enc.sz ByteArray + 0 = j := by show j * 1 + 0 = j; omega
     rw [e] at hc'
     exact hc') (Go.Sx.cell_lt hc) (by omega) (by omega) (by exact Nat.le_trans hlen (by omega))
   rw [← e2]
   exact this.mono fun e w' ⟨h2, h3⟩ => ⟨h2, cl_below h3⟩
end Go.Proofs.YtkmbliojafefdaaGreatDoor

set_option autoImplicit false
set_option maxRecDepth 100000
namespace Go.Proofs.YtkmbliojafefdaaGreatDoor
open Go.Sx
open Enc (enc val)
def ExIn (e : XL) (w : World) : Prop := RdL e.w.v e.wl w ∧ RdL e.p.v e.pl w
structure ExOk (e : XL) : Prop where
 spot : SpotOk e.p
 small : e.pl.length ≤ 1000
 ok : ∀ x ∈ e.pl, phoneOk x = true
 at0 : 0 ≤ e.at_ ∧ e.at_ ≤ 1000
def cnt (l : List XL) (pl : List ByteArray) : Nat := l.countP fun e => decide (e.pl = pl)
structure MS where
 s : SlV
 b : List ByteArray
 m : Int
def mostStep (l : List XL) (s : MS) (e : XL) : MS := if s.m < (cnt l e.pl : Int) ∨ ((cnt l e.pl : Int) = s.m ∧ ordL e.pl s.b < 0) then ⟨e.p, e.pl, cnt l e.pl⟩ else s
def mostC (l : List XL) : MS := l.foldl (mostStep l) ⟨⟨none, 0, 0⟩, [], 0⟩
theorem cnt_succ {l : List XL} {k : Nat} (hk : k < l.length) (pl : List ByteArray) : cnt (l.take (k + 1)) pl = cnt (l.take k) pl + if (nth l k).pl = pl then 1 else 0 := by
 unfold cnt
 rw [List.take_succ_eq_append_getElem hk, List.countP_append, nth_get hk]
 by_cases h : (l[k]).pl = pl <;> simp [h]
theorem cnt_le (l : List XL) (pl : List ByteArray) : cnt l pl ≤ l.length := List.countP_le_length
theorem most_rd {l : List XL} {w : World} (h : ∀ e ∈ l, ExIn e w) : ∀ {k : Nat}, k ≤ l.length → RdL ((l.take k).foldl (mostStep l) ⟨⟨none, 0, 0⟩, [], 0⟩).s.v ((l.take k).foldl (mostStep l) ⟨⟨none, 0, 0⟩, [], 0⟩).b w
 | 0, _ => rd_nil0 w
 | k + 1, hk => by
   rw [take_fold _ _ (by omega : k < l.length)]
   unfold mostStep
   split
   · exact (h _ (nth_mem (by omega))).2
   · exact most_rd h (by omega)
theorem most_spec (sv : Value) (l : List XL) (hl : l.length ≤ 1000000) (hok : ∀ e ∈ l, ExOk e) (w : World) (hs : Stb w [] (RdL sv l)) (hin : Stb w [] fun w' => ∀ u ∈ l, ExIn u w') : Calls Tryz.prog 149 #[sv] w fun e w' => e = .returned (.tuple #[(mostC l).s.v, .int .i64 (mostC l).m]) ∧ Cl w [] [] w' := by
 have hkey : ∀ e ∈ l, ∀ e' ∈ l, joinS e.pl = joinS e'.pl ↔ e.pl = e'.pl := fun e he e' he' => ⟨joinS_inj (hok e he).ok (hok e' he').ok, fun h => by rw [h]⟩
 refine calls_cw (vs := [_]) Tryz.func149 rfl Tryz.ntmps149 rfl (Cl.start0 w) (zr (za rfl (za rfl (nP (cw_seq (cw_region ?_))))))
 refine sw_x rfl rfl rfl (e_makeMap (κ := ByteArray) (ν := Int) rfl) (fun b12 => ?_)
 refine za rfl (nP (zr (za rfl (sw_nil (post_then (cw_seq (cw_region (za rfl (sw_nil (post_then (cw_seq (cw_seq (cw_region (zm rfl ?_))))))))))))))
 refine zS rfl (q_len rfl (.k rfl (.nil)) (stA (by assumption))) ?_
 refine zm rfl (nP (cw_block ?_))
 refine cw_loop (S := Nat × List (ByteArray × Int)) (fun y => [(0, [], sv), (4, [], .map (some b12)), (5, [], .slice none 0 0), (6, [], .int .i64 0), (13, [], sv), (14, [], .int .i64 l.length), (15, [], .int .i64 y.1)]) (fun y => Cl w [] [mpA b12 y.2]) (fun y => y.1 ≤ l.length ∧ ∀ e ∈ l, getZ 0 y.2 (joinS e.pl) = (cnt (l.take y.1) e.pl : Int)) (fun y => l.length - y.1) (0, []) ⟨Nat.zero_le _, fun e he => rfl⟩ (by exact .cons rfl (.cons rfl (.cons rfl (.cons rfl (.cons rfl (.cons rfl (.cons rfl .nil))))))) (fun _ h => h) ?_
 rintro ⟨k, m⟩ ⟨hk, hm⟩
 dsimp only at hk hm ⊢
 refine zr (zS rfl (q_lss rfl rfl rfl) (nP (cw_seq ?_)))
 refine cw_cond rfl (fun h => ?_) (fun h => ?_)
 · have hk' : k < l.length := by simp at h; omega
   obtain ⟨x, hx⟩ : ∃ x, nth l k = x := ⟨_, rfl⟩
   have hxm : x ∈ l := by rw [← hx]; exact nth_mem hk'
   have hxo := hok x hxm
   have hxr : Stb w [] (RdL x.p.v x.pl) := stb_map hin fun _ h => (h x hxm).2
   have hmx := hm x hxm
   have hcl := cnt_le (l.take k) x.pl
   rw [List.length_take] at hcl
   have hcs := fun pl => cnt_succ hk' pl
   rw [hx] at hcs
   refine sP (cw_seq (cw_block (zr ?_)))
   refine zS rfl (q_indexN rfl rfl rfl (stA (by assumption)) (by intro hc; omega)) ?_
   refine zS rfl (q_loadEl rfl rfl rfl (stA (by assumption)) (by intro hc; omega)) ?_
   rw [hx]
   refine sw_x rfl rfl rfl (e_alloc rfl) (fun b8 => ?_)
   refine sw_eff0 rfl rfl (e_store (i := 0) rfl rfl rfl rfl rfl rfl rfl rfl) (nP (cw_region (zm rfl (zS rfl (q_fieldAddr rfl rfl) ?_))))
   refine zS rfl (q_loadC rfl rfl (by exact .head _) rfl) ?_
   refine sw_step rfl rfl rfl (q_call (CanCall.mk Tryz.call185) rfl (.k rfl (.k rfl (.nil))) (fun _ w1 hw => callq hw (joinS_spec x.p x.pl hxo.spot hxo.small hxo.ok w1 (stb_arg hw hxr)))) ?_
   refine zS rfl (q_lookup (κ := ByteArray) (ν := Int) (k := joinS x.pl) rfl rfl rfl (by exact fun w hw => rdm_own hw (by exact .tail _ (.head _)))) ?_
   rw [hmx]
   refine zS rfl (q_add rfl rfl rfl (by intro hc; omega)) ?_
   refine sw_eff0 rfl rfl (e_mapUpdate (κ := ByteArray) (ν := Int) (i := 1) (.inl rfl) rfl rfl rfl rfl) (sw_nil (post_blk (post_then (cw_region ?_))))
   refine zS rfl (q_add rfl rfl rfl (by intro hc; omega)) ?_
   refine zm rfl (sw_nil ?_)
   refine post_next (k + 1, upd m (joinS x.pl) ((cnt (l.take k) x.pl : Int) + 1)) (by exact .cons rfl (.cons rfl (.cons rfl (.cons rfl (.cons rfl (.cons rfl (.cons rfl .nil))))))) (fun w' h => (Cl.sel (by exact .take 1 rfl (.nil _))) _ h) ⟨by simp only; omega, fun e he => ?_⟩ (by simp only; omega)
   simp only
   rw [getZ_upd, hcs]
   by_cases h2 : e.pl = x.pl
   · rw [if_pos ((hkey e he x hxm).2 h2), if_pos h2.symm, h2]; omega
   · rw [if_neg (fun h3 => h2 ((hkey e he x hxm).1 h3)), if_neg (fun h3 => h2 h3.symm), hm e he]; omega
 · have hk' : k = l.length := by simp at h; omega
   subst hk'
   rw [List.take_length] at hm
   refine cw_exit (post_then_x (post_then_x (post_blk_eq (post_then (cw_seq (zr (zm rfl ?_)))))))
   refine zS rfl (q_len rfl (.k rfl (.nil)) (stA (by assumption))) ?_
   refine zm rfl (nP (cw_block ?_))
   refine cw_loop (S := Nat) (fun k => [(4, [], .map (some b12)), (5, [], ((l.take k).foldl (mostStep l) ⟨⟨none, 0, 0⟩, [], 0⟩).s.v), (6, [], .int .i64 ((l.take k).foldl (mostStep l) ⟨⟨none, 0, 0⟩, [], 0⟩).m), (26, [], sv), (27, [], .int .i64 l.length), (28, [], .int .i64 k)]) (fun _ => Cl w [] [mpA b12 m]) (fun k => k ≤ l.length) (fun k => l.length - k) 0 (Nat.zero_le _) (by exact .cons rfl (.cons rfl (.cons rfl (.cons rfl (.cons rfl (.cons rfl .nil)))))) (fun _ h => h) ?_
   intro k hk
   refine zr (zS rfl (q_lss rfl rfl rfl) (nP (cw_seq ?_)))
   refine cw_cond rfl (fun h2 => ?_) (fun h2 => ?_)
   · have hk' : k < l.length := by simp at h2; omega
     obtain ⟨x, hx⟩ : ∃ x, nth l k = x := ⟨_, rfl⟩
     have hxm : x ∈ l := by rw [← hx]; exact nth_mem hk'
     have hxo := hok x hxm
     have hxr : Stb w [] (RdL x.p.v x.pl) := stb_map hin fun _ h => (h x hxm).2
     have hmx := hm x hxm
     have hfold := take_fold (mostStep l) (⟨⟨none, 0, 0⟩, [], 0⟩ : MS) hk'
     have hrd : Stb w [] (RdL ((l.take k).foldl (mostStep l) ⟨⟨none, 0, 0⟩, [], 0⟩).s.v ((l.take k).foldl (mostStep l) ⟨⟨none, 0, 0⟩, [], 0⟩).b) := stb_map hin fun _ h => most_rd h hk
     obtain ⟨S, hS⟩ : ∃ S, (l.take k).foldl (mostStep l) ⟨⟨none, 0, 0⟩, [], 0⟩ = S := ⟨_, rfl⟩
     rw [hS] at hfold hrd ⊢
     rw [hx] at hfold
     refine sP (cw_seq (cw_block (zr ?_)))
     refine zS rfl (q_indexN rfl rfl rfl (stA (by assumption)) (by intro hc; omega)) ?_
     refine zS rfl (q_loadEl rfl rfl rfl (stA (by assumption)) (by intro hc; omega)) ?_
     rw [hx]
     refine sw_x rfl rfl rfl (e_alloc rfl) (fun b10 => ?_)
     refine sw_eff0 rfl rfl (e_store (i := 0) rfl rfl rfl rfl rfl rfl rfl rfl) (nP (zr (zm rfl (zS rfl (q_fieldAddr rfl rfl) ?_))))
     refine zS rfl (q_loadC rfl rfl (by exact .head _) rfl) ?_
     refine sw_step rfl rfl rfl (q_call (CanCall.mk Tryz.call185) rfl (.k rfl (.k rfl (.nil))) (fun _ w1 hw => callq hw (joinS_spec x.p x.pl hxo.spot hxo.small hxo.ok w1 (stb_arg hw hxr)))) ?_
     refine zS rfl (q_lookup (κ := ByteArray) (ν := Int) (k := joinS x.pl) rfl rfl rfl (by exact fun w hw => rdm_own hw (by exact .tail _ (.head _)))) ?_
     rw [hmx]
     refine za rfl (nP (zr (zm rfl (zm rfl (zS rfl (q_gtr rfl rfl rfl) (zm rfl (zm rfl (zm rfl (zS rfl (q_eql rfl rfl rfl) (zm rfl (zS rfl (q_fieldAddr rfl rfl) ?_)))))))))))
     refine zS rfl (q_loadC rfl rfl (by exact .head _) rfl) ?_
     refine zm rfl ?_
     refine sw_step rfl rfl rfl (q_call (CanCall.mk Tryz.call142) rfl (.k rfl (.k rfl (.nil))) (fun _ w hw => callq hw (compareL_spec _ _ _ _ w (by exact stb_arg hw (by assumption)) (by exact stb_arg hw (by assumption))))) ?_
     refine zS rfl (q_lss rfl rfl rfl) (zS rfl (q_and2 rfl rfl rfl) (zS rfl (q_or2 rfl rfl rfl) (nP ?_)))
     refine cw_cond rfl (fun h3 => ?_) (fun h3 => ?_)
     · have hst : mostStep l S x = ⟨x.p, x.pl, cnt l x.pl⟩ := by
         unfold mostStep
         rw [if_pos]
         simp only [Bool.or_eq_true, Bool.and_eq_true, decide_eq_true_eq] at h3
         exact h3
       rw [hst] at hfold
       refine cw_region (zS rfl (q_fieldAddr rfl rfl) ?_)
       refine zS rfl (q_loadC rfl rfl (by exact .head _) rfl) ?_
       refine zm rfl (za rfl (za rfl (sw_nil (post_blk (post_then (cw_region ?_))))))
       refine zS rfl (q_add rfl rfl rfl (by intro hc; omega)) ?_
       refine zm rfl (sw_nil ?_)
       exact post_next (k + 1) (by rw [hfold]; exact (by exact .cons rfl (.cons rfl (.cons rfl (.cons rfl (.cons rfl (.cons rfl .nil))))))) (fun _ h => (Cl.sel (by exact .take 1 rfl (.nil _))) _ h) (by omega) (by omega)
     · have hst : mostStep l S x = S := by
         unfold mostStep
         rw [if_neg]
         intro h4
         have : (decide (S.m < (cnt l x.pl : Int)) || (decide ((cnt l x.pl : Int) = S.m) && decide (ordL x.pl S.b < 0))) = true := by
           simp only [Bool.or_eq_true, Bool.and_eq_true, decide_eq_true_eq]; exact h4
         rw [this] at h3; cases h3
       rw [hst] at hfold
       refine cw_skip (post_blk (post_then (cw_region ?_)))
       refine zS rfl (q_add rfl rfl rfl (by intro hc; omega)) ?_
       refine zm rfl (sw_nil ?_)
       exact post_next (k + 1) (by rw [hfold]; exact (by exact .cons rfl (.cons rfl (.cons rfl (.cons rfl (.cons rfl (.cons rfl .nil))))))) (fun _ h => (Cl.sel (by exact .take 1 rfl (.nil _))) _ h) (by omega) (by omega)
   · have hk' : k = l.length := by simp at h2; omega
     rw [hk', List.take_length]
     refine cw_exit (post_then_x (post_then_x (post_blk_eq (post_then (zr (zm rfl (zm rfl (za rfl (za rfl (nP (cw_ret (post_ret2 rfl (resOk_tmp rfl) (resOk_tmp rfl) ?_))))))))))))
     exact fun w' hw => ⟨rfl, (Cl.sel (by exact .nil _)) _ hw⟩
end Go.Proofs.YtkmbliojafefdaaGreatDoor

/-
 copy into a part of the call's own slice; a string of bytes; s[:b:b]. General lemmas, no program text.
-/
set_option autoImplicit false
namespace Go.Sx
open Enc (enc val)
section
variable {α : Type} [Enc α] {P : Program} {ops : Array Oper} {n : Fr} {E : Env} {C : World → Prop} {cs : List Bool} {o : Oper} {w0 : World} {fp : List Nat} {H : List Asn}
end
section
variable {P : Program} {n : Fr} {E : Env} {C : World → Prop} {cs : List Bool} {o : Oper}
end
end Go.Sx

/- Elements of an array in a block; clear of the end of an own slice. General lemmas, no program text. -/
set_option autoImplicit false
namespace Go.Sx
open Enc (enc val)
section
variable {α : Type} [Enc α] {P : Program} {n : Fr} {E : Env} {C : World → Prop} {cs : List Bool} {o : Oper} {w0 : World} {fp : List Nat} {H : List Asn}
theorem q_indexArr {t e : TypeId} {len : Nat} {x y : Operand} {cx cy : List Bool} {b k : Nat} {kk : IntKind} {i : Int} {sz : Nat} (ho : o.op = .indexAddr t x y) (hx : evl E x = some (cx, .pointer (some ⟨b, k, none⟩))) (hy : evl E y = some (cy, .int kk i))
   [sx : Sub cx cs] [sy : Sub cy cs] (ht : P.underlying t = some (.array len e)) [hz : SzT P e sz] (h : 0 ≤ i ∧ i < len) : OpR P n E C cs o (.pointer (some ⟨b, k + i.toNat * sz, none⟩)) :=
 .of_run fun a ha hc w _ => by
   unfold execOp; simp only [ho]; rw [ha.eval hx sx hc, ha.eval hy sy hc]
   simp [Instr.indexAt, Instr.sureAddr, run_underlying ht, h, hz.sz, asIntOf, addr_add]
theorem q_loadAS {t t' : TypeId} {x : Operand} {cx : List Bool} {b k sz : Nat} {cells : List Value} (ho : o.op = .load t x) (hx : evl E x = some (cx, .pointer (some ⟨b, k, none⟩))) [hs : Sub cx cs] [ht : AggT P t] [hz : SzT P t sz]
   (hH : ∀ w, C w → BlkAt b cells t' w) (hk : Nat.ble (k + sz) cells.length = true) : OpR P n E C cs o (.agg ((cells.drop k).take sz).toArray) :=
 load_run ho hx hs fun _ w hw => by
   obtain ⟨bs, hb⟩ := hH w hw
   refine ⟨_, rfl, ?_⟩
   have hk' := Nat.le_of_ble_eq_true hk
   have hl : ((cells.drop k).take sz).length = sz := by simp; omega
   have := run_loadCells_list (P := P) w ⟨b, k, none⟩ ((cells.drop k).take sz) (fun j v hv => by
     rw [addr_add, blk.cell hb]
     rw [List.getElem?_take] at hv
     split at hv
     · rw [List.getElem?_drop] at hv; exact hv
     · simp at hv)
   rw [hl] at this
   simp [loadVar, ht.agg w, hz.sz w, this]
variable {Q : Exit → Act → World → Prop} {ops : Array Oper}
theorem sw_effn {rest : List Oper} {R : World → Prop} (hg : o.guard = none) (hd : o.dst = none)
   (hop : OpE P n E C o (fun _ w' => R w')) (h : SW P ops Q rest n E R) : SW P ops Q (o :: rest) n E C := by
 intro a w ha hCw
 refine wpListIn_plain hg fun K hK => ((hop a w ha hCw).wpIn fun v w' hR => hK _ _ ?_)
 rw [hd]; exact h _ w' (ha.nodst v) hR
theorem zero_flat (zero : α) (m : Nat) : (Builtin.zeroCells (enc zero).toArray m).toList = (List.replicate m zero).flatMap enc := by
 have hp := Enc.pos (α := α)
 apply List.ext_getElem?
 intro q
 by_cases hq : q < m * Enc.sz α
 · have hd : q / Enc.sz α < m := (Nat.div_lt_iff_lt_mul hp).2 hq
   have hmod := Nat.mod_lt q hp
   have h7 := flat_get (List.replicate m zero) (q / Enc.sz α) zero (q % Enc.sz α) ((enc zero)[q % Enc.sz α]'(by rw [Enc.len]; exact hmod)) (by simp [hd]) (List.getElem?_eq_getElem _)
   rw [Nat.mul_comm, Nat.div_add_mod] at h7
   rw [h7]
   simp [Builtin.zeroCells, hq, Enc.len, hmod]
 · rw [List.getElem?_eq_none (by simp [Builtin.zeroCells, Enc.len]; omega), List.getElem?_eq_none (by rw [flat_len, List.length_replicate]; omega)]
theorem e_clear {t e : TypeId} {sz bytes : Nat} {z : List Value} {zero : α} {ops' : List Operand} {s : SlV} {l : List α} {k i : Nat} (ho : o.op = .call { callee := .builtin .clear, args := ops'.toArray, argTypes := #[t] }) (hv : Evs E [] ops' [(s.sub (Enc.sz α) k l.length).v])
   [ht : SlT P t e] [hi : InfoT P e sz bytes z] (hsz : sz = Enc.sz α) (hz : z = enc zero) (hi' : nthA H i = some (ownL e s.v l)) (hk : k ≤ l.length) :
   OpE P n E (Cl w0 fp H) o (fun u w' => Cl w0 fp (setA H i (ownL e s.v (l.take k ++ List.replicate (l.length - k) zero))) w') :=
 .of_run fun a w ha hw => by
   obtain ⟨bs, ⟨b1, b2, rfl, hown, rfl⟩, _, _, _, _, h6⟩ := (hw.focus hi').split
   simp only [List.append_nil] at h6
   obtain ⟨inf, v0, g1, g2, g3, g4, g5, g6⟩ := hi.info
   subst hsz
   have hp := Enc.pos (α := α)
   have hex : ∀ w', (Builtin.clear_ #[t] o.type #[(s.sub (Enc.sz α) k l.length).v]).run P w = .ok (.tuple #[]) w' → (execOp a.eval o).run P w = .ok (.value (.tuple #[])) w' := fun w' h => by
     unfold execOp; simp only [ho]
     simp only [resolve, invoke, List.map_toArray, hv.eval ha AllT.nil, Sem.run_bind, Sem.run_pure, Result.andThen_ok]
     simp [builtin, h]
   by_cases hkl : k = l.length
   · subst hkl
     refine ⟨_, w, hex w ?_, ?_⟩
     · simp [Builtin.clear_, SlV.v, SlV.sub, run_underlying ht.und]
       cases (if s.cap = l.length then s.addr else s.addr.map fun x => x.add (l.length * Enc.sz α)) <;> simp
     · rw [List.take_length, Nat.sub_self, List.replicate_zero, List.append_nil]
       exact Cl.set hi' (hw.focus hi')
   · rcases hown with ⟨_, h, _⟩ | ⟨b, n', cap, cur, h1, rfl, h3, h4, h5, h7, h8, h9⟩
     · have := flat_len l
       rw [h] at this
       have this : l.length * Enc.sz α = 0 := by simpa using this.symm
       rcases Nat.mul_eq_zero.1 this with h | h
       · omega
       · omega
     · simp only [SlV.v, Value.slice.injEq] at h1
       obtain ⟨q1, q2, q3⟩ := h1
       rw [flat_len] at h8
       have hnl := Nat.eq_of_mul_eq_mul_right hp h8
       have hcap : ¬ s.cap = k := by omega
       have hsub : (s.sub (Enc.sz α) k l.length).v = .slice (some ⟨b, k * Enc.sz α, none⟩) (l.length - k) (s.cap - k) := by
         simp only [SlV.v, SlV.sub, if_neg hcap, q1, Option.map_some, addr_add, Nat.zero_add]
       have hzl : (zeroValue e).run P w = .ok v0 w := by simp [zeroValue, typeInfo, g1, g4, Result.andThen]
       have hvs : (Builtin.zeroCells v0.cells (l.length - k)).toList = (List.replicate (l.length - k) zero).flatMap enc := by rw [g5, hz, zero_flat]
       have hvl : ((List.replicate (l.length - k) zero).flatMap enc).length = (l.length - k) * Enc.sz α := by rw [flat_len, List.length_replicate]
       have hmul : k * Enc.sz α + (l.length - k) * Enc.sz α = l.length * Enc.sz α := by rw [← Nat.add_mul]; congr 1; omega
       have hmc : n' * Enc.sz α ≤ cap * Enc.sz α := Nat.mul_le_mul_right _ h4
       have hst := run_storeCells_at P b (k * Enc.sz α) e ((List.replicate (l.length - k) zero).flatMap enc) 0 cur w h3 (by rw [hvl, h7]; rw [← hnl] at hmc; omega) (flat_one _)
       simp only [Nat.add_zero] at hst
       refine ⟨_, _, hex _ (by
         rw [hsub]
         obtain ⟨m, hm⟩ : ∃ m, l.length - k = m + 1 := ⟨l.length - k - 1, by omega⟩
         rw [hm] at hvs hst ⊢
         simp [Builtin.clear_, run_underlying ht.und, hzl, hvs, hst]), (h6 [ownL e s.v (l.take k ++ List.replicate (l.length - k) zero)] _ (cl_setRow h3 (cs := (cur.toList.take (k * Enc.sz α) ++ (List.replicate (l.length - k) zero).flatMap enc ++ cur.toList.drop (k * Enc.sz α + ((List.replicate (l.length - k) zero).flatMap enc).length)).toArray) fun w' h' => .inr ⟨b, n', cap, _, by rw [SlV.v, q1, q2, q3], rfl, h', h4, h5, ?_, ?_, ?_⟩)).set hi'⟩
       · simp only [List.size_toArray, List.length_append, List.length_take, List.length_drop, Array.length_toList, hvl]; rw [← hnl] at hmc; omega
       · rw [flat_len]; congr 1; simp; omega
       · rw [List.flatMap_append, flat_take, ← h9, hvl, hmul, ← hnl]
         have e2 : (cur.toList.take (l.length * Enc.sz α)).take (k * Enc.sz α) = cur.toList.take (k * Enc.sz α) := by rw [List.take_take, Nat.min_eq_left (by omega)]
         rw [e2]
         rw [List.take_append_of_le_length (by simp only [List.length_append, List.length_take, Array.length_toList, hvl]; rw [← hnl] at hmc; omega), List.take_of_length_le (by simp only [List.length_append, List.length_take, Array.length_toList, hvl]; omega)]
end
end Go.Sx

set_option autoImplicit false
set_option maxRecDepth 100000
namespace Go.Proofs.YtkmbliojafefdaaGreatDoor
open Go.Sx
open Enc (enc val)
def rankC (a : Int) : Int := if a < 0 then -2 * a else 2 * a + 1
theorem rank_spec (a : Int) (h : -1000 ≤ a ∧ a ≤ 1000) (w : World) : Calls Tryz.prog 206 #[.int .i64 a] w fun e w' => e = .returned (.int .i64 (rankC a)) ∧ Cl w [] [] w' := by
 refine calls_cw (vs := [_]) Tryz.func206 rfl Tryz.ntmps206 rfl (Cl.start0 w) (zr (za rfl (nP (cw_seq (cw_seq (cw_region (zm rfl (zS rfl (q_lss rfl rfl rfl) (sw_nil (post_then ?_))))))))))
 refine cw_cond rfl (fun h1 => ?_) (fun h1 => ?_)
 · have h2 : rankC a = -2 * a := by unfold rankC; rw [if_pos (by simpa using h1)]
   refine zr (zm rfl ?_)
   refine zS rfl (q_mul rfl rfl rfl (by intro hc; omega)) ?_
   refine za rfl (nP (cw_ret (post_then_r (post_ret1 rfl (resOk_tmp rfl) ?_))))
   exact fun w' hw => ⟨by rw [h2], hw⟩
 · have h2 : rankC a = 2 * a + 1 := by unfold rankC; rw [if_neg (by simpa using h1)]
   refine sP (zr (zm rfl ?_))
   refine zS rfl (q_mul rfl rfl rfl (by intro hc; omega)) ?_
   refine zS rfl (q_add rfl rfl rfl (by intro hc; omega)) ?_
   refine za rfl (nP (cw_ret (post_ret1 rfl (resOk_tmp rfl) ?_)))
   exact fun w' hw => ⟨by rw [h2], hw⟩
def TT.list (t : TT) : List Cond := if t.a2 = 0 then [⟨t.a1, t.c1⟩] else [⟨t.a1, t.c1⟩, ⟨t.a2, t.c2⟩]
def CondB (c : Cond) : Prop := -1000 ≤ c.at_ ∧ c.at_ ≤ 1000
def TTB (t : TT) : Prop := (-1000 ≤ t.a1 ∧ t.a1 ≤ 1000) ∧ (-1000 ≤ t.a2 ∧ t.a2 ≤ 1000)
def condC (p q : Cond) : Int := orL [sgn (rankC p.at_ - rankC q.at_), sgn (p.c - q.c)]
theorem byCond_spec (p q : Cond) (hp : CondB p) (hq : CondB q) (w : World) : Calls Tryz.prog 205 #[val p, val q] w fun e w' => e = .returned (.int .i64 (condC p q)) ∧ Cl w [] [] w' := by
 have h1 : -1000 ≤ p.at_ ∧ p.at_ ≤ 1000 := hp
 have h2 : -1000 ≤ q.at_ ∧ q.at_ ≤ 1000 := hq
 have h3 : 0 ≤ rankC p.at_ ∧ rankC p.at_ ≤ 2001 := by unfold rankC; split <;> omega
 have h4 : 0 ≤ rankC q.at_ ∧ rankC q.at_ ≤ 2001 := by unfold rankC; split <;> omega
 refine calls_cw (vs := [_, _]) Tryz.func205 rfl Tryz.ntmps205 rfl (Cl.start0 w) (zr ?_)
 refine sw_x rfl rfl rfl (e_box rfl rfl rfl) (fun b2 => ?_)
 refine sw_x rfl rfl rfl (e_box rfl rfl rfl) (fun b3 => ?_)
 refine za rfl (nP (cw_seq (cw_region_a (Cl w [] [blk b3 (enc q) 109, blk b2 (enc p) 109]) [] mixed_Tryz ?_)))
 refine zk 0 (Cl.sel (by exact .take 0 rfl (.take 0 rfl (.nil _)))) rfl (q_fieldAddr rfl rfl) ?_
 refine zk 1 (Cl.sel (by exact .take 0 rfl (.take 0 rfl (.nil _)))) rfl (q_loadC rfl rfl (by exact .tail _ (.head _)) rfl) ?_
 refine zk 3 (Cl.sel (by exact .take 0 rfl (.take 0 rfl (.nil _)))) rfl (q_fieldAddr rfl rfl) ?_
 refine zk 4 (Cl.sel (by exact .take 0 rfl (.take 0 rfl (.nil _)))) rfl (q_loadC rfl rfl (by exact .head _) rfl) ?_
 refine zk 7 (Cl.sel (by exact .take 0 rfl (.take 0 rfl (.nil _)))) rfl (q_fieldAddr rfl rfl) ?_
 refine zk 8 (Cl.sel (by exact .take 0 rfl (.take 0 rfl (.nil _)))) rfl (q_loadC rfl rfl (by exact .tail _ (.head _)) rfl) ?_
 refine zk 9 (Cl.sel (by exact .take 0 rfl (.take 0 rfl (.nil _)))) rfl (q_fieldAddr rfl rfl) ?_
 refine zk 10 (Cl.sel (by exact .take 0 rfl (.take 0 rfl (.nil _)))) rfl (q_loadC rfl rfl (by exact .head _) rfl) ?_
 refine aw_q 2 (by kernel_rfl) rfl rfl rfl rfl (q_call (CanCall.mk Tryz.call206) rfl (.k rfl (.nil)) (fun _ w hw => callq hw (rank_spec _ (by assumption) w))) (by intro hb; exact (Cl.sel (by exact .take 0 rfl (.take 0 rfl (.nil _))))) ?_
 refine aw_q 5 (by kernel_rfl) rfl rfl rfl rfl (q_call (CanCall.mk Tryz.call206) rfl (.k rfl (.nil)) (fun _ w hw => callq hw (rank_spec _ (by assumption) w))) (by intro hb; exact (Cl.sel (by exact .take 0 rfl (.take 0 rfl (.nil _))))) ?_
 refine aw_q 6 (by kernel_rfl) rfl rfl rfl rfl (q_call (CanCall.mk Tryz.call203) rfl (.k rfl (.k rfl (.nil))) (fun _ w hw => callq hw (compareI_spec _ _ w))) (by intro hb; exact (Cl.sel (by exact .take 0 rfl (.take 0 rfl (.nil _))))) ?_
 refine aw_q 11 (by kernel_rfl) rfl rfl rfl rfl (q_call (CanCall.mk Tryz.call75) rfl (.k rfl (.k rfl (.nil))) (fun _ w hw => callq hw (compareR_spec _ _ w))) (by intro hb; exact (Cl.sel (by exact .take 0 rfl (.take 0 rfl (.nil _))))) ?_
 refine aw_x 12 (by kernel_rfl) rfl rfl rfl rfl (e_buildL (α := Int) (l := [sgn (rankC p.at_ - rankC q.at_), sgn (p.c - q.c)]) rfl (.k rfl (.k rfl (.nil))) rfl rfl rfl rfl) (by intro hb; exact fun _ => (Cl.sel (by exact .take 1 rfl (.take 1 rfl (.nil _))))) (fun s17 => ?_)
 refine aw_q 13 (by kernel_rfl) rfl rfl rfl rfl (q_call (CanCall.mk Tryz.call141) rfl (.k rfl (.nil)) (fun _ w hw => callq hw (or_spec _ _ w (by exact stb_own hw (by exact .head _))))) (by intro hb; exact (Cl.sel (by exact .take 1 rfl (.take 1 rfl (.nil _))))) ?_
 refine zp 14 rfl (q_assign rfl rfl) ?_
 refine aw_end (by kernel_rfl) ?_
 refine post_then (cw_ret (post_ret1 rfl (resOk_tmp rfl) ?_))
 exact fun w' hw => ⟨rfl, (Cl.sel (by exact .nil _)) _ hw⟩
def ordBy {α : Type} (c : α → α → Int) : List α → List α → Int
 | [], [] => 0
 | [], _ :: _ => -1
 | _ :: _, [] => 1
 | x :: a, y :: b => if c x y = 0 then ordBy c a b else c x y
theorem compareF_spec (sa sb : Value) (a b : List Cond) (g : FuncId) (c : Cond → Cond → Int) (hgc : CanCall Tryz.prog g) (hg : ∀ x ∈ a, ∀ y ∈ b, ∀ w, Calls Tryz.prog g #[val x, val y] w fun e w' => e = .returned (.int .i64 (c x y)) ∧ Cl w [] [] w') (w : World) (ha : Stb w [] (RdL sa a)) (hb : Stb w [] (RdL sb b)) :
   Calls Tryz.prog 204 #[sa, sb, .func (.func g) #[] #[]] w fun e w' => e = .returned (.int .i64 (ordBy c a b)) ∧ Cl w [] [] w' := by
 have hLa := rd_len ha.here
 have hLb := rd_len hb.here
 refine calls_cw (vs := [_, _, _]) Tryz.func204 rfl Tryz.ntmps204 rfl (Cl.start0 w) (zr (za rfl (nP (cw_seq (cw_seq (cw_region (zm rfl ?_)))))))
 refine zS rfl (q_len rfl (.k rfl (.nil)) (stA (by assumption))) ?_
 refine zm rfl (nP (cw_block ?_))
 refine cw_loop (S := Nat) (fun k => [(0, [], sa), (1, [], sb), (2, [], .func (.func g) #[] #[]), (11, [], sa), (12, [], .int .i64 a.length), (13, [], .int .i64 k)]) (fun _ => Cl w [] []) (fun k => k ≤ a.length ∧ k ≤ b.length ∧ ordBy c a b = ordBy c (a.drop k) (b.drop k)) (fun k => a.length - k) 0 ⟨Nat.zero_le _, Nat.zero_le _, rfl⟩ (by exact .cons rfl (.cons rfl (.cons rfl (.cons rfl (.cons rfl (.cons rfl .nil)))))) (fun _ h => h) ?_
 rintro k ⟨hk, hk2, hbe⟩
 refine zr (zS rfl (q_lss rfl rfl rfl) (nP (cw_seq ?_)))
 refine cw_cond rfl (fun h => ?_) (fun h => ?_)
 · have hk' : k < a.length := by simp at h; omega
   refine sP (cw_seq (cw_block (zr (zm rfl ?_))))
   refine zS rfl (q_indexN rfl rfl rfl (stA (by assumption)) (by intro hc; omega)) ?_
   refine zS rfl (q_loadEl rfl rfl rfl (stA (by assumption)) (by intro hc; omega)) ?_
   refine sw_x rfl rfl rfl (e_alloc rfl) (fun b8 => ?_)
   refine za rfl (sw_eff0 rfl rfl (e_store (i := 0) rfl rfl rfl rfl rfl rfl rfl rfl) (nP (cw_seq (zr (zm rfl (zm rfl ?_))))))
   refine zS rfl (q_len rfl (.k rfl (.nil)) (stA (by assumption))) ?_
   refine zS rfl (q_geq rfl rfl rfl) (nP ?_)
   refine cw_cond rfl (fun h2 => ?_) (fun h2 => ?_)
   · have h4 : k = b.length := by simp at h2; omega
     have h3 : ordBy c a b = 1 := by rw [hbe, h4, List.drop_length, List.drop_eq_getElem_cons (by omega : b.length < a.length)]; rfl
     refine zr (za rfl (nP (cw_ret (post_then_r (post_blk_r (post_then_r (post_then_r (post_blk_r (post_then_r (post_ret1 rfl (resOk_tmp rfl) ?_))))))))))
     exact fun w' hw => ⟨by rw [h3], (Cl.sel (by exact .nil _)) _ hw⟩
   · have h4 : k < b.length := by simp at h2; omega
     have hst : ordBy c (a.drop k) (b.drop k) = if c (nth a k) (nth b k) = 0 then ordBy c (a.drop (k + 1)) (b.drop (k + 1)) else c (nth a k) (nth b k) := by
       rw [List.drop_eq_getElem_cons hk', List.drop_eq_getElem_cons h4, nth_get hk', nth_get h4]; rfl
     refine sP (zr (zm rfl (zm rfl ?_)))
     refine zS rfl (q_indexN rfl rfl rfl (stA (by assumption)) (by intro hc; omega)) ?_
     refine zS rfl (q_loadEl rfl rfl rfl (stA (by assumption)) (by intro hc; omega)) ?_
     refine sw_x rfl rfl rfl (e_alloc rfl) (fun b9 => ?_)
     refine sw_eff0 rfl rfl (e_store (i := 0) rfl rfl rfl rfl rfl rfl rfl rfl) (nP (zr (zm rfl ?_)))
     refine zS rfl (q_loadA rfl rfl (by exact .tail _ (.head _)) rfl) ?_
     refine zS rfl (q_loadA rfl rfl (by exact .head _) rfl) ?_
     refine sw_step rfl rfl rfl (q_callv hgc rfl rfl (.k rfl (.k rfl (.nil))) (fun _ w' hw => callq hw (hg (nth a k) (nth_mem hk') (nth b k) (nth_mem h4) w'))) (za rfl (nP (zr (zm rfl (zS rfl (q_neq rfl rfl rfl) (sw_nil (post_then ?_)))))))
     refine cw_cond rfl (fun h5 => ?_) (fun h5 => ?_)
     · have h3 : ordBy c a b = c (nth a k) (nth b k) := by
         simp at h5
         rw [hbe, hst, if_neg h5]
       refine zr (zm rfl (za rfl (nP (cw_ret (post_blk_r (post_then_r (post_then_r (post_blk_r (post_then_r (post_ret1 rfl (resOk_tmp rfl) ?_))))))))))
       exact fun w' hw => ⟨by rw [h3], (Cl.sel (by exact .nil _)) _ hw⟩
     · refine cw_skip (post_blk (post_then (cw_region ?_)))
       refine zS rfl (q_add rfl rfl rfl (by intro hc; omega)) ?_
       refine zm rfl (sw_nil ?_)
       exact post_next (k + 1) (by exact .cons rfl (.cons rfl (.cons rfl (.cons rfl (.cons rfl (.cons rfl .nil)))))) (fun _ h => (Cl.sel (by exact .nil _)) _ h) ⟨by omega, by omega, by simp at h5; rw [hbe, hst, if_pos h5]⟩ (by omega)
 · have hk' : k = a.length := by simp at h; omega
   subst hk'
   refine cw_exit (post_then_x (post_then_x (post_blk_eq (post_then (cw_seq (zr (zm rfl ?_)))))))
   refine zS rfl (q_len rfl (.k rfl (.nil)) (stA (by assumption))) ?_
   refine zm rfl ?_
   refine zS rfl (q_len rfl (.k rfl (.nil)) (stA (by assumption))) ?_
   refine zS rfl (q_lss rfl rfl rfl) (nP ?_)
   refine cw_cond rfl (fun h2 => ?_) (fun h2 => ?_)
   · have h3 : ordBy c a b = -1 := by
       simp at h2
       rw [hbe, List.drop_length, List.drop_eq_getElem_cons (by omega : a.length < b.length)]; rfl
     refine zr (za rfl (nP (cw_ret (post_then_r (post_ret1 rfl (resOk_tmp rfl) ?_)))))
     exact fun w' hw => ⟨by rw [h3], hw⟩
   · have h3 : ordBy c a b = 0 := by
       simp at h2
       rw [hbe, List.drop_length, List.drop_eq_nil_of_le (by omega)]; rfl
     refine sP (zr (za rfl (nP (cw_ret (post_ret1 rfl (resOk_tmp rfl) ?_)))))
     exact fun w' hw => ⟨by rw [h3], hw⟩
theorem list_spec (t : TT) (w : World) : Calls Tryz.prog 151 #[val t] w fun e w' => ∃ r : SlV, e = .returned r.v ∧ True ∧ Cl w [] [ownL 109 r.v t.list] w' := by
 refine calls_cw (vs := [_]) Tryz.func151 rfl Tryz.ntmps151 rfl (Cl.start0 w) (zr ?_)
 refine sw_x rfl rfl rfl (e_box rfl rfl rfl) (fun b1 => ?_)
 refine za rfl (nP (cw_seq (zr ?_)))
 refine zS rfl (q_indexArr (len := 2) (sz := 2) rfl rfl rfl Tryz.underlying211 (by decide)) ?_
 refine zS rfl (q_fieldAddr rfl rfl) ?_
 refine zS rfl (q_loadC rfl rfl (by exact .head _) rfl) ?_
 refine zS rfl (q_eql rfl rfl rfl) (nP ?_)
 refine cw_cond rfl (fun h => ?_) (fun h => ?_)
 · have h2 : t.list = [⟨t.a1, t.c1⟩] := by unfold TT.list; rw [if_pos (by simpa using h)]
   refine zr ?_
   refine zS rfl (q_indexArr (len := 2) (sz := 2) rfl rfl rfl Tryz.underlying211 (by decide)) ?_
   refine zS rfl (q_loadA rfl rfl (by exact .head _) rfl) ?_
   refine sw_x rfl rfl rfl (e_buildL (α := Cond) (l := [⟨t.a1, t.c1⟩]) rfl (.k rfl (.nil)) rfl rfl rfl rfl) (fun s9 => ?_)
   refine za rfl (nP (cw_ret (post_then_r (post_ret1 rfl (resOk_tmp rfl) ?_))))
   exact fun w' hw => ⟨s9, rfl, trivial, by rw [h2]; exact (Cl.sel (by exact .take 0 rfl (.nil _))) _ hw⟩
 · have h2 : t.list = [⟨t.a1, t.c1⟩, ⟨t.a2, t.c2⟩] := by unfold TT.list; rw [if_neg (by simpa using h)]
   refine sP (zr ?_)
   refine zS rfl (q_indexArr (len := 2) (sz := 2) rfl rfl rfl Tryz.underlying211 (by decide)) ?_
   refine zS rfl (q_loadA rfl rfl (by exact .head _) rfl) ?_
   refine zS rfl (q_indexArr (len := 2) (sz := 2) rfl rfl rfl Tryz.underlying211 (by decide)) ?_
   refine zS rfl (q_loadA rfl rfl (by exact .head _) rfl) ?_
   refine sw_x rfl rfl rfl (e_buildL (α := Cond) (l := [⟨t.a1, t.c1⟩, ⟨t.a2, t.c2⟩]) rfl (.k rfl (.k rfl (.nil))) rfl rfl rfl rfl) (fun s14 => ?_)
   refine za rfl (nP (cw_ret (post_ret1 rfl (resOk_tmp rfl) ?_)))
   exact fun w' hw => ⟨s14, rfl, trivial, by rw [h2]; exact (Cl.sel (by exact .take 0 rfl (.nil _))) _ hw⟩
end Go.Proofs.YtkmbliojafefdaaGreatDoor

set_option autoImplicit false
set_option maxRecDepth 100000
namespace Go.Proofs.YtkmbliojafefdaaGreatDoor
open Go.Sx
open Enc (enc val)
def betC (a b : Tly) : Int := if orL [sgn (b.m * a.n - a.m * b.n), sgn (b.n - a.n), sgn ((a.t.list.length : Int) - b.t.list.length)] ≠ 0 then orL [sgn (b.m * a.n - a.m * b.n), sgn (b.n - a.n), sgn ((a.t.list.length : Int) - b.t.list.length)] else ordBy condC a.t.list b.t.list
def TlyB (x : Tly) : Prop := TTB x.t ∧ (0 ≤ x.n ∧ x.n ≤ 100000000) ∧ (0 ≤ x.m ∧ x.m ≤ 100000000)
theorem list_bd {t : TT} (h : TTB t) : ∀ x ∈ t.list, CondB x := by
 intro x hx
 unfold TT.list at hx
 split at hx
 · simp at hx; subst hx; exact h.1
 · simp at hx; rcases hx with rfl | rfl
   · exact h.1
   · exact h.2
theorem mul_bd {x y : Int} (hx : 0 ≤ x ∧ x ≤ 100000000) (hy : 0 ≤ y ∧ y ≤ 100000000) : 0 ≤ x * y ∧ x * y ≤ 10000000000000000 :=
 ⟨Int.mul_nonneg hx.1 hy.1, Int.le_trans (Int.mul_le_mul hx.2 hy.2 hy.1 (by decide)) (by decide)⟩
theorem better_spec (a b : Tly) (ha : TlyB a) (hb : TlyB b) (w : World) : Calls Tryz.prog 188 #[val a, val b] w fun e w' => e = .returned (.int .i64 (betC a b)) ∧ Cl w [] [] w' := by
 have h1 := mul_bd hb.2.2 ha.2.1
 have h2 := mul_bd ha.2.2 hb.2.1
 obtain ⟨hta, ⟨n1, n2⟩, m1, m2⟩ := ha
 obtain ⟨htb, ⟨n3, n4⟩, m3, m4⟩ := hb
 have hra := list_bd hta
 have hrb := list_bd htb
 refine calls_cw (vs := [_, _]) Tryz.func188 rfl Tryz.ntmps188 rfl (Cl.start0 w) (zr ?_)
 refine sw_x rfl rfl rfl (e_box rfl rfl rfl) (fun b2 => ?_)
 refine sw_x rfl rfl rfl (e_box rfl rfl rfl) (fun b3 => ?_)
 refine za rfl (nP (cw_seq (cw_region_a (Cl w [] [blk b3 (enc b) 213, blk b2 (enc a) 213]) [] mixed_Tryz ?_)))
 refine zk 0 (Cl.sel (by exact .take 0 rfl (.take 0 rfl (.nil _)))) rfl (q_fieldAddr rfl rfl) ?_
 refine zk 1 (Cl.sel (by exact .take 0 rfl (.take 0 rfl (.nil _)))) rfl (q_loadA rfl rfl (by exact .tail _ (.head _)) rfl) ?_
 refine zk 3 (Cl.sel (by exact .take 0 rfl (.take 0 rfl (.nil _)))) rfl (q_fieldAddr rfl rfl) ?_
 refine zk 4 (Cl.sel (by exact .take 0 rfl (.take 0 rfl (.nil _)))) rfl (q_loadA rfl rfl (by exact .head _) rfl) ?_
 refine aw_x 2 (by kernel_rfl) rfl rfl rfl rfl (e_call (CanCall.mk Tryz.call151) rfl (.k rfl (.nil)) (fun w1 hw => list_spec a.t w1)) (by intro hb; exact fun _ w h => (Cl.sel (by exact .take 1 rfl (.take 1 rfl (.nil _)))) w h.2) (fun s10 => ?_)
 refine aw_imp fun _ => ?_
 refine aw_x 5 (by kernel_rfl) rfl rfl rfl rfl (e_call (CanCall.mk Tryz.call151) rfl (.k rfl (.nil)) (fun w1 hw => list_spec b.t w1)) (by intro hb; exact fun _ w h => (Cl.sel (by exact .take 2 rfl (.take 2 rfl (.nil _)))) w h.2) (fun s13 => ?_)
 refine aw_imp fun _ => ?_
 refine zp 6 rfl (q_assign rfl rfl) ?_
 refine zp 7 rfl (q_assign rfl rfl) ?_
 refine aw_end (by kernel_rfl) ?_
 refine post_then (cw_seq (cw_seq (cw_region_a (Cl w [] [ownL 109 s13.v b.t.list, ownL 109 s10.v a.t.list, blk b3 (enc b) 213, blk b2 (enc a) 213]) [] mixed_Tryz ?_)))
 refine zk 0 (Cl.sel (by exact .take 0 rfl (.take 0 rfl (.take 0 rfl (.take 0 rfl (.nil _)))))) rfl (q_fieldAddr rfl rfl) ?_
 refine zk 1 (Cl.sel (by exact .take 0 rfl (.take 0 rfl (.take 0 rfl (.take 0 rfl (.nil _)))))) rfl (q_loadC rfl rfl (by exact .tail _ (.tail _ (.head _))) rfl) ?_
 refine zk 2 (Cl.sel (by exact .take 0 rfl (.take 0 rfl (.take 0 rfl (.take 0 rfl (.nil _)))))) rfl (q_fieldAddr rfl rfl) ?_
 refine zk 3 (Cl.sel (by exact .take 0 rfl (.take 0 rfl (.take 0 rfl (.take 0 rfl (.nil _)))))) rfl (q_loadC rfl rfl (by exact .tail _ (.tail _ (.tail _ (.head _)))) rfl) ?_
 refine zp 4 rfl (q_mul rfl rfl rfl (by intro hc; omega)) ?_
 refine zk 5 (Cl.sel (by exact .take 0 rfl (.take 0 rfl (.take 0 rfl (.take 0 rfl (.nil _)))))) rfl (q_fieldAddr rfl rfl) ?_
 refine zk 6 (Cl.sel (by exact .take 0 rfl (.take 0 rfl (.take 0 rfl (.take 0 rfl (.nil _)))))) rfl (q_loadC rfl rfl (by exact .tail _ (.tail _ (.tail _ (.head _)))) rfl) ?_
 refine zk 7 (Cl.sel (by exact .take 0 rfl (.take 0 rfl (.take 0 rfl (.take 0 rfl (.nil _)))))) rfl (q_fieldAddr rfl rfl) ?_
 refine zk 8 (Cl.sel (by exact .take 0 rfl (.take 0 rfl (.take 0 rfl (.take 0 rfl (.nil _)))))) rfl (q_loadC rfl rfl (by exact .tail _ (.tail _ (.head _))) rfl) ?_
 refine zp 9 rfl (q_mul rfl rfl rfl (by intro hc; omega)) ?_
 refine zk 11 (Cl.sel (by exact .take 0 rfl (.take 0 rfl (.take 0 rfl (.take 0 rfl (.nil _)))))) rfl (q_fieldAddr rfl rfl) ?_
 refine zk 12 (Cl.sel (by exact .take 0 rfl (.take 0 rfl (.take 0 rfl (.take 0 rfl (.nil _)))))) rfl (q_loadC rfl rfl (by exact .tail _ (.tail _ (.head _))) rfl) ?_
 refine zk 13 (Cl.sel (by exact .take 0 rfl (.take 0 rfl (.take 0 rfl (.take 0 rfl (.nil _)))))) rfl (q_fieldAddr rfl rfl) ?_
 refine zk 14 (Cl.sel (by exact .take 0 rfl (.take 0 rfl (.take 0 rfl (.take 0 rfl (.nil _)))))) rfl (q_loadC rfl rfl (by exact .tail _ (.tail _ (.tail _ (.head _)))) rfl) ?_
 refine zp 16 rfl (q_move rfl rfl) ?_
 refine zk 17 (Cl.sel (by exact .take 0 rfl (.take 0 rfl (.take 0 rfl (.take 0 rfl (.nil _)))))) rfl (q_len rfl (.k rfl (.nil)) (rdO (by exact .tail _ (.head _)))) ?_
 refine zp 18 rfl (q_move rfl rfl) ?_
 refine zk 19 (Cl.sel (by exact .take 0 rfl (.take 0 rfl (.take 0 rfl (.take 0 rfl (.nil _)))))) rfl (q_len rfl (.k rfl (.nil)) (rdO (by exact .head _))) ?_
 refine aw_q 10 (by kernel_rfl) rfl rfl rfl rfl (q_call (CanCall.mk Tryz.call203) rfl (.k rfl (.k rfl (.nil))) (fun _ w hw => callq hw (compareI_spec _ _ w))) (by intro hb; exact (Cl.sel (by exact .take 0 rfl (.take 0 rfl (.take 0 rfl (.take 0 rfl (.nil _))))))) ?_
 refine aw_q 15 (by kernel_rfl) rfl rfl rfl rfl (q_call (CanCall.mk Tryz.call203) rfl (.k rfl (.k rfl (.nil))) (fun _ w hw => callq hw (compareI_spec _ _ w))) (by intro hb; exact (Cl.sel (by exact .take 0 rfl (.take 0 rfl (.take 0 rfl (.take 0 rfl (.nil _))))))) ?_
 refine aw_q 20 (by kernel_rfl) rfl rfl rfl rfl (q_call (CanCall.mk Tryz.call203) rfl (.k rfl (.k rfl (.nil))) (fun _ w hw => callq hw (compareI_spec _ _ w))) (by intro hb; exact (Cl.sel (by exact .take 0 rfl (.take 0 rfl (.take 0 rfl (.take 0 rfl (.nil _))))))) ?_
 refine aw_x 21 (by kernel_rfl) rfl rfl rfl rfl (e_buildL (α := Int) (l := [sgn (b.m * a.n - a.m * b.n), sgn (b.n - a.n), sgn ((a.t.list.length : Int) - b.t.list.length)]) rfl (.k rfl (.k rfl (.k rfl (.nil)))) rfl rfl rfl rfl) (by intro hb; exact fun _ => (Cl.sel (by exact .take 1 rfl (.take 1 rfl (.take 1 rfl (.take 1 rfl (.nil _))))))) (fun s35 => ?_)
 refine aw_q 22 (by kernel_rfl) rfl rfl rfl rfl (q_call (CanCall.mk Tryz.call141) rfl (.k rfl (.nil)) (fun _ w hw => callq hw (or_spec _ _ w (by exact stb_own hw (by exact .head _))))) (by intro hb; exact (Cl.sel (by exact .take 1 rfl (.take 1 rfl (.take 1 rfl (.take 1 rfl (.nil _))))))) ?_
 refine zp 23 rfl (q_assign rfl rfl) ?_
 refine aw_end (by kernel_rfl) ?_
 refine post_then (zr (zm rfl (zS rfl (q_neq rfl rfl rfl) (nP ?_))))
 refine cw_cond rfl (fun h => ?_) (fun h => ?_)
 · have h3 : betC a b = orL [sgn (b.m * a.n - a.m * b.n), sgn (b.n - a.n), sgn ((a.t.list.length : Int) - b.t.list.length)] := by unfold betC; rw [if_pos (by simpa using h)]
   refine zr (zm rfl (za rfl (nP (cw_ret (post_then_r (post_ret1 rfl (resOk_tmp rfl) ?_))))))
   exact fun w' hw => ⟨by rw [h3], (Cl.sel (by exact .nil _)) _ hw⟩
 · have h3 : betC a b = ordBy condC a.t.list b.t.list := by unfold betC; rw [if_neg (by simpa using h)]
   refine sP (zr (zm rfl (zm rfl ?_)))
   refine sw_step rfl rfl rfl (q_call (CanCall.mk Tryz.call204) rfl (.k rfl (.k rfl (.k rfl (.nil)))) (fun _ w1 hw => callq hw (compareF_spec _ _ a.t.list b.t.list 205 condC (CanCall.mk Tryz.call205) (fun x hx y hy w' => byCond_spec x y (hra x hx) (hrb y hy) w') w1 (by exact stb_own hw (by exact .tail _ (.tail _ (.head _)))) (by exact stb_own hw (by exact .tail _ (.head _)))))) ?_
   refine za rfl (nP (cw_ret (post_ret1 rfl (resOk_tmp rfl) ?_)))
   exact fun w' hw => ⟨by rw [h3], (Cl.sel (by exact .nil _)) _ hw⟩
def minBy {α : Type} [Inhabited α] (c : α → α → Int) (l : List α) : α := (l.drop 1).foldl (fun m x => if c x m < 0 then x else m) (nth l 0)
theorem minBy_mem {α : Type} [Inhabited α] (c : α → α → Int) {l : List α} (h : 0 < l.length) : minBy c l ∈ l := by
 have key : ∀ (r : List α) (m : α), r.foldl (fun m x => if c x m < 0 then x else m) m ∈ m :: r := by
   intro r
   induction r with
   | nil => intro m; simp
   | cons x r ih =>
     intro m
     rw [List.foldl_cons]
     have := ih (if c x m < 0 then x else m)
     split at this <;> rename_i h2
     · rw [if_pos h2]; exact .tail _ this
     · rw [if_neg h2]
       rcases List.mem_cons.1 this with e | e
       · rw [e]; exact .head _
       · exact .tail _ (.tail _ e)
 have := key (l.drop 1) (nth l 0)
 rcases List.mem_cons.1 this with e | e
 · unfold minBy; rw [e]; exact nth_mem h
 · exact List.mem_of_mem_drop e
theorem minFunc_spec (sv : Value) (xs : List Tly) (g : FuncId) (c : Tly → Tly → Int) (R : World → Prop) (hgc : CanCall Tryz.prog g) (h0 : 0 < xs.length) (w : World) (hs : Stb w [] (RdL sv xs)) (hR : Stb w [] R) (hg : CmpL Tryz.prog g #[] c R xs) :
   Calls Tryz.prog 187 #[sv, .func (.func g) #[] #[]] w fun e w' => e = .returned (val (minBy c xs)) ∧ Cl w [] [] w' := by
 have hL := rd_len hs.here
 refine calls_cw (vs := [_, _]) Tryz.func187 rfl Tryz.ntmps187 rfl (Cl.start0 w) (zr ?_)
 refine sw_x rfl rfl rfl (e_alloc rfl) (fun b4 => ?_)
 refine nP (cw_seq (zr (zm rfl ?_)))
 refine zS rfl (q_len rfl (.k rfl (.nil)) (stA (by assumption))) ?_
 refine zS rfl (q_lss rfl rfl rfl) (nP ?_)
 refine cw_cond rfl (fun h => ?_) (fun h => ?_)
 · exfalso; simp at h; omega
 · refine sP (zr (zm rfl ?_))
   refine zS rfl (q_indexN rfl rfl rfl (stA (by assumption)) (by intro hc; omega)) ?_
   refine zS rfl (q_loadEl rfl rfl rfl (stA (by assumption)) (by intro hc; omega)) ?_
   refine sw_x rfl rfl rfl (e_alloc rfl) (fun b5 => ?_)
   refine sw_eff0 rfl rfl (e_store (i := 0) rfl rfl rfl rfl rfl rfl rfl rfl) (nP (cw_seq (zr (za rfl (sw_nil (post_then (cw_block ?_)))))))
   refine cw_loop (S := Nat × Tly) (fun y => [(0, [], sv), (1, [], .func (.func g) #[] #[]), (4, [], .pointer (some ⟨b4, 0, none⟩)), (5, [], .pointer (some ⟨b5, 0, none⟩)), (6, [], .int .i64 y.1)]) (fun y => Cl w [] [blk b5 (enc y.2) 213, blk b4 (enc (default : Tly)) 213]) (fun y => 1 ≤ y.1 ∧ y.1 ≤ xs.length ∧ y.2 ∈ xs ∧ minBy c xs = (xs.drop y.1).foldl (fun m x => if c x m < 0 then x else m) y.2) (fun y => xs.length - y.1) (1, nth xs 0) ⟨Nat.le_refl _, h0, nth_mem h0, rfl⟩ (by exact .cons rfl (.cons rfl (.cons rfl (.cons rfl (.cons rfl .nil))))) (fun _ h => h) ?_
   rintro ⟨k, m⟩ ⟨hk0, hk, hm, hf⟩
   dsimp only at hk0 hk hm hf ⊢
   refine cw_seq (zr (zm rfl (zm rfl ?_)))
   refine zS rfl (q_len rfl (.k rfl (.nil)) (stA (by assumption))) ?_
   refine zS rfl (q_lss rfl rfl rfl) (nP ?_)
   refine cw_cond rfl (fun h2 => ?_) (fun h2 => ?_)
   · have hk' : k < xs.length := by simp at h2; omega
     have hst : minBy c xs = (xs.drop (k + 1)).foldl (fun m x => if c x m < 0 then x else m) (if c (nth xs k) m < 0 then nth xs k else m) := by
       rw [hf, List.drop_eq_getElem_cons hk', List.foldl_cons, ← nth_get hk']
     refine sP (cw_seq (cw_block (cw_seq (cw_region_a (Cl w [] [blk b5 (enc m) 213, blk b4 (enc (default : Tly)) 213]) [] mixed_Tryz ?_))))
     refine zp 0 rfl (q_move rfl rfl) ?_
     refine zp 1 rfl (q_move rfl rfl) ?_
     refine zp 2 rfl (q_move rfl rfl) ?_
     refine zk 3 (Cl.sel (by exact .take 0 rfl (.take 0 rfl (.nil _)))) rfl (q_indexN rfl rfl rfl (stA (by assumption)) (by intro hc; omega)) ?_
     refine zk 4 (Cl.sel (by exact .take 0 rfl (.take 0 rfl (.nil _)))) rfl (q_loadEl rfl rfl rfl (stA (by assumption)) (by intro hc; omega)) ?_
     refine zk 5 (Cl.sel (by exact .take 0 rfl (.take 0 rfl (.nil _)))) rfl (q_loadA rfl rfl (by exact .head _) rfl) ?_
     refine aw_q 6 (by kernel_rfl) rfl rfl rfl rfl (q_callv hgc rfl rfl (.k rfl (.k rfl (.nil))) (fun _ w' hw => callq hw (hg (nth xs k) (nth_mem hk') m hm w' (hR.cl hw)))) (by intro hb; exact (Cl.sel (by exact .take 0 rfl (.take 0 rfl (.nil _))))) ?_
     refine zp 7 rfl (q_lss rfl rfl rfl) ?_
     refine aw_end (by kernel_rfl) ?_
     refine post_then ?_
     refine cw_cond rfl (fun h3 => ?_) (fun h3 => ?_)
     · rw [if_pos (by simpa using h3)] at hst
       refine cw_region (zm rfl (zm rfl ?_))
       refine zS rfl (q_indexN rfl rfl rfl (stA (by assumption)) (by intro hc; omega)) ?_
       refine zS rfl (q_loadEl rfl rfl rfl (stA (by assumption)) (by intro hc; omega)) ?_
       refine sw_eff0 rfl rfl (e_store (i := 0) rfl rfl rfl rfl rfl rfl rfl rfl) (sw_nil (post_blk (post_then (cw_region (zm rfl ?_)))))
       refine zS rfl (q_add rfl rfl rfl (by intro hc; omega)) ?_
       refine za rfl (sw_nil ?_)
       exact post_next (k + 1, nth xs k) (by exact .cons rfl (.cons rfl (.cons rfl (.cons rfl (.cons rfl .nil))))) (fun _ h => (Cl.sel (by exact .take 0 rfl (.take 0 rfl (.nil _)))) _ h) ⟨by simp only; omega, by simp only; omega, nth_mem hk', hst⟩ (by simp only; omega)
     · rw [if_neg (by simpa using h3)] at hst
       refine cw_skip (post_blk (post_then (cw_region (zm rfl ?_))))
       refine zS rfl (q_add rfl rfl rfl (by intro hc; omega)) ?_
       refine za rfl (sw_nil ?_)
       exact post_next (k + 1, m) (by exact .cons rfl (.cons rfl (.cons rfl (.cons rfl (.cons rfl .nil))))) (fun _ h => (Cl.sel (by exact .take 0 rfl (.take 0 rfl (.nil _)))) _ h) ⟨by simp only; omega, by simp only; omega, hm, hst⟩ (by simp only; omega)
   · have hk' : k = xs.length := by simp at h2; omega
     subst hk'
     rw [List.drop_length, List.foldl_nil] at hf
     refine cw_exit (post_then_x (post_then_x (post_blk_eq (post_then (zr ?_)))))
     refine zS rfl (q_loadA rfl rfl (by exact .head _) rfl) ?_
     refine sw_eff0 rfl rfl (e_store (i := 1) rfl rfl rfl rfl rfl rfl rfl rfl) (nP (cw_ret ?_))
     refine post_ret1 rfl (resOk_blk (x := _) rfl (by exact .tail _ (.head _)) (by rfl)) ?_
     exact fun w' hw => ⟨by rw [hf], (Cl.sel (by exact .nil _)) _ hw⟩
end Go.Proofs.YtkmbliojafefdaaGreatDoor

/-
 Ranges over functions for the layer of symbolic frames: the loop's record, a round, a call of yield, the mark at the function's end. General lemmas, no program text.
-/
set_option autoImplicit false
namespace Go.Sx
theorem cl_obj_at {w0 w : World} {fp : List Nat} {H : List Asn} {i l : Nat} {o : Obj} (hi : nthA H i = some (obj l o)) (h : Cl w0 fp H w) : w.heap[l]? = some o := by
 obtain ⟨bs, hb⟩ := h.get (mem_of_nth hi)
 exact hb.2
theorem cl_putObj {w0 w : World} {fp : List Nat} {H : List Asn} {i l : Nat} {o : Obj} (o' : Obj) (hi : nthA H i = some (obj l o)) (h : Cl w0 fp H w) : Cl w0 fp (setA H i (obj l o')) (w.putObj l o') := by
 obtain ⟨bs, ⟨b1, b2, rfl, ⟨rfl, hb⟩, rfl⟩, _, hlt, _, _, h6⟩ := (h.focus hi).split
 refine (h6 [obj l o'] _ ?_).set hi
 have hl : l < w.heap.size := hlt l (by simp)
 refine ⟨⟨rfl, rfl, rfl, by simp [World.putObj], fun k hk hn => ?_⟩, [l], ⟨[l], [], rfl, ⟨rfl, ?_⟩, rfl⟩, by simp, fun b hb => ?_⟩
 · exact World.putObj_heap_other (by simpa using hn)
 · exact World.putObj_heap_same hl
 · simp at hb; subst hb; exact ⟨.inl (by simp), by simpa [World.putObj] using hl⟩
theorem cl_obj_new {w0 w : World} {fp : List Nat} {H : List Asn} (o : Obj) (h : Cl w0 fp H w) : Cl w0 fp (obj w.heap.size o :: H) (w.alloc o) := by
 refine h.split0.2.2 [obj w.heap.size o] _ ⟨chg_alloc w _, [w.heap.size], ⟨[w.heap.size], [], rfl, ⟨rfl, World.alloc_heap_new w o⟩, rfl⟩, by simp, fun b hb => by simp at hb; subst hb; exact ⟨.inr (Nat.le_refl _), by simp⟩⟩
section
variable {P : Program} {n : Fr} {E : Env} {C : World → Prop} {Q : Exit → Act → World → Prop} {w0 : World} {fp : List Nat} {H : List Asn}
def penv : List Tmp → List Value → Env → Env
 | p :: ps, v :: vs, E => penv ps vs ((p, [], v) :: E)
 | _, _, E => E
theorem penv_sat {n : Fr} : ∀ (ps : List Tmp) (vs : List Value) (E : Env) (tmps : Array Value), Sat n E { tmps := tmps, defers := [] } → (ps.all fun p => Nat.blt p n.sz) = true →
   Sat n (penv ps vs E) { tmps := (ps.zip vs).foldl (fun tmps x => tmps.setIfInBounds x.1 x.2) tmps, defers := [] }
 | [], vs, E, tmps, h, _ => by cases vs <;> exact h
 | p :: ps, [], E, tmps, h, _ => h
 | p :: ps, v :: vs, E, tmps, h, hp => by
   simp only [List.all_cons, Bool.and_eq_true] at hp
   have := h.put (d := p) (cs := []) (v := v) (blt_lt hp.1)
   exact penv_sat ps vs _ _ this hp.2
structure Rec (k : Nat) (E : Env) (ps : List Tmp) (assign body : Code) (l : Nat) (L : LoopState → Option Code → Obj) : Prop where
 loop : ∃ r : Loop, (∀ st p, L st p = .loop { r with state := st, pending := p }) ∧ r.params = ps.toArray ∧ r.assign = assign ∧ r.body = body ∧ Sat ⟨k, [], some l⟩ E { tmps := r.tmps, defers := [] }
def BeginThen (P : Program) (l : Nat) (body : Code) (Q : Exit → Act → World → Prop) (a : Act) (w : World) : Prop :=
 ∃ w', (Instr.beginRound l).run P w = .ok () w' ∧ body.wpIn (Fw (some l)) 0 P Q a w'
theorem round_cw {k l : Nat} {f : FuncId} {tmps : Array Value} {assign body : Code} {w : World} {R : Ending → World → Prop} (hS : Sat ⟨k, [], some l⟩ E { tmps := tmps, defers := [] }) (hw : C w)
   (h : CW P assign (Exit.then (BeginThen P l body (roundPost P l R)) (fun _ _ _ => False)) ⟨k, [], some l⟩ E C) : RoundIn (Fw none) 0 P l f tmps assign body w R :=
 roundIn_of_wpIn trivial (h _ w hS hw)
variable {k l : Nat} {ps : List Tmp} {assign body : Code} {L : LoopState → Option Code → Obj}
theorem post_begin {i : Nat} {D : List Deferred} {Q0 : Exit → Act → World → Prop} {E' : Env} (hL : Rec k E' ps assign body l L) (hi : nthA H i = some (obj l (L .ready none)))
   (h : CW P body Q ⟨k, D, some l⟩ E (Cl w0 fp (setA H i (obj l (L .busy none))))) : Post ⟨k, D, some l⟩ E (Cl w0 fp H) (Exit.then (BeginThen P l body Q) Q0) .normal := fun a w ha hw => by
 obtain ⟨r, hr, _⟩ := hL.loop
 have hl := cl_obj_at hi hw
 rw [hr] at hl
 refine ⟨_, run_beginRound hl rfl, h a _ ⟨ha.defers, ha.size, ha.has⟩ ?_⟩
 have := cl_putObj (L .busy none) hi hw
 rw [hr] at this
 rw [hr]
 exact this
theorem post_round {i : Nat} {E' : Env} {R : Ending → World → Prop} (hL : Rec k E' ps assign body l L) (hi : nthA H i = some (obj l (L .busy none)))
   (h : ∀ w, Cl w0 fp (setA H i (obj l (L .ready none))) w → R (.returned (.bool true)) w) : Post n E (Cl w0 fp H) (roundPost P l R) .normal := fun _ _ _ hw => by
 obtain ⟨r, hr, _⟩ := hL.loop
 have hl := cl_obj_at hi hw
 rw [hr] at hl
 refine ⟨_, _, run_endRound none hl, h _ ?_⟩
 have := cl_putObj (L .ready none) hi hw
 rw [hr] at this
 rw [hr]
 exact this
def Asks (P : Program) (l : Nat) (args : List Value) (w : World) (R : Bool → World → Prop) : Prop :=
 YieldAt (Fw none) 0 P l args.toArray w fun e w' => ∃ b, e = .returned (.bool b) ∧ R b w'
theorem asks_of {i : Nat} {args : List Value} {w : World} {R : Bool → World → Prop} (hL : Rec k E ps assign body l L) (hi : nthA H i = some (obj l (L .ready none))) (hw : Cl w0 fp H w) (hs : args.length = ps.length) (hk : (ps.all fun p => Nat.blt p k) = true)
   (h : CW P assign (Exit.then (BeginThen P l body (roundPost P l fun e w' => ∃ b, e = .returned (.bool b) ∧ R b w')) (fun _ _ _ => False)) ⟨k, [], some l⟩ (penv ps args E) (Cl w0 fp H)) : Asks P l args w R := by
 obtain ⟨r, hr, h1, h2, h3, h4⟩ := hL.loop
 have hl := cl_obj_at hi hw
 rw [hr] at hl
 refine ⟨_, _, _, _, run_yield hl (by simp [h1, hs]), ?_⟩
 have h5 := penv_sat ps args E r.tmps h4 hk
 have e : (({ r with state := .ready, pending := none } : Loop).params.zip args.toArray).foldl (fun tmps (t, a) => tmps.setIfInBounds t a) r.tmps = (ps.zip args).foldl (fun tmps x => tmps.setIfInBounds x.1 x.2) r.tmps := by
   show (r.params.zip args.toArray).foldl _ _ = _
   rw [h1, List.zip_toArray, List.foldl_toArray]
 rw [← e] at h5
 show RoundIn (Fw none) 0 P l r.fn _ r.assign r.body w _
 rw [h2, h3]
 exact round_cw h5 hw h
theorem sw_yield {ops : Array Oper} {o : Oper} {rest : List Oper} {d l : Nat} {x : Operand} {asg : List Operand} {ts : Array TypeId} {vs : List Value} {R : Bool → World → Prop} (hg : o.guard = none) (hd : o.dst = some d) (hn : Nat.ble (d + 1) n.sz = true)
   (ho : o.op = .call { callee := .value x, args := asg.toArray, argTypes := ts }) (hx : evl E x = some ([], .func (.yield l) #[] #[])) (hv : Evs E [] asg vs)
   (hy : ∀ w, C w → Asks P l vs w R) (h : ∀ b, SW P ops Q rest n ((d, [], .bool b) :: E) (R b)) : SW P ops Q (o :: rest) n E C := by
 intro a w ha hCw
 refine wpListIn_plain hg fun K hK => ?_
 obtain ⟨f, tmps, assign, body, hr, hround⟩ := hy w hCw
 refine ⟨fun _ _ => trivial, ?_⟩
 rw [Oper.semAt_eq _ _ _ (by rw [ho]; intro c hc; cases hc)]
 have e : (execOp a.eval o).run P w = .ok (.round l f tmps assign body) w := by
   unfold execOp
   simp only [ho]
   simp only [resolve, ha.eval hx ⟨id⟩ AllT.nil, Deferred.ofValue, invoke, List.map_toArray, hv.eval ha AllT.nil, Sem.run_bind, Sem.run_pure, Result.andThen_ok]
   simpa using hr
 rw [e]
 refine ⟨fun h => by simp at h, RoundIn.mono (F := Fw n.ro) hround ?_⟩
 rintro e w' ⟨b, rfl, hR⟩
 refine hK _ _ ?_
 have := h b _ w' (ha.put (cs := []) (v := .bool b) (Nat.le_of_ble_eq_true hn)) hR
 rw [hd]; exact this
def mark (b : Nat) : Deferred := { target := .collected b, args := #[] }
theorem cw_rangeFunc {D : List Deferred} {g : Operand} {f : FuncId} {cap : Array Value} (X : Nat → Nat → Option Code → List Asn → Prop) (hf : CanCall P f) (hg : evl E g = some ([], .func (.func f) #[] cap))
   (hcall : ∀ (l b : Nat) (L : LoopState → Option Code → Obj) (w : World), Rec k E ps assign body l L → Cl w0 fp (obj l (L .ready none) :: obj b (.deferred (some [])) :: H) w →
     Calls P f (#[.func (.yield l) #[] #[]] ++ cap) w fun e w' => (∃ v, e = .returned v) ∧ ∃ st jump H', X l b jump H' ∧ st ≠ .busy ∧ Cl w0 fp (obj l (L st jump) :: H') w')
   (hN : ∀ l b H', X l b none H' → Post ⟨k, mark b :: D, none⟩ E (Cl w0 fp H') Q .normal)
   (hJ : ∀ l b c H', X l b (some c) H' → CW P c Q ⟨k, mark b :: D, none⟩ E (Cl w0 fp H')) : CW P (.rangeFunc g ps.toArray assign body) Q ⟨k, D, none⟩ E (Cl w0 fp H) := by
 intro a w ha hw
 refine wpIn_rangeFunc fun fn _ => ?_
 let r : Loop := { state := .ready, pending := none, fn, tmps := a.tmps, params := ps.toArray, assign, body, defers := w.heap.size }
 have hw2 : Cl w0 fp (obj (w.heap.size + 1) (.loop r) :: obj w.heap.size (.deferred (some [])) :: H) ((w.alloc (.deferred (some []))).alloc (.loop r)) := by
   have := cl_obj_new (.loop r) (cl_obj_new (.deferred (some [])) hw)
   rwa [World.size_alloc] at this
 have hS0 : Sat ⟨k, [], some (w.heap.size + 1)⟩ E { tmps := a.tmps, defers := [] } := ⟨rfl, ha.size, ha.has⟩
 have hc := hcall _ _ (fun st p => .loop { r with state := st, pending := p }) _ ⟨r, fun _ _ => rfl, rfl, rfl, rfl, hS0⟩ hw2
 refine ⟨_, _, _, { target := .fn (.func f) cap, args := #[.func (.yield (w.heap.size + 1)) #[] #[]] }, ((w.alloc (.deferred (some []))).alloc (.loop r)), f, _, _, run_enterLoop_outer fn a.tmps ps.toArray assign body, ?_, fun _ _ => trivial, ?_, fun h => by simp at h, CallsIn.mono (callsIn_wide.2 hc) ?_⟩
 · have e1 : a.eval (.const (.func (.yield (w.heap.size + 1)) #[] #[])) = .func (.yield (w.heap.size + 1)) #[] #[] := rfl
   simp only [resolve, rangeCall, ha.eval hg ⟨id⟩ AllT.nil, Deferred.ofValue, List.map_toArray, List.map_cons, List.map_nil, e1, Sem.run_bind, Sem.run_pure, Result.andThen_ok]
   rfl
 · simp [invoke, hf.run]
 · rintro e w3 ⟨⟨v, rfl⟩, st, jump, H', hX, hb, hC⟩
   have hi : nthA (obj (w.heap.size + 1) (.loop { r with state := st, pending := jump }) :: H') 0 = some (obj (w.heap.size + 1) (.loop { r with state := st, pending := jump })) := rfl
   refine ⟨_, _, run_endLoop (cl_obj_at hi hC) hb, ?_⟩
   have hC' := (cl_putObj (.loop { r with state := .exhausted, pending := jump }) hi hC).tail
   have hS : Sat ⟨k, mark w.heap.size :: D, none⟩ E { a with defers := [{ target := .collected w.heap.size, args := #[] }] ++ a.defers } := ⟨by simp [ha.defers, mark], ha.size, ha.has⟩
   cases jump with
   | none => exact hN _ _ _ hX _ _ hS hC'
   | some c => exact hJ _ _ _ _ hX _ _ hS hC'
theorem calls_cwM {k : Nat} {f : FuncId} {fn : Func} {c : Code} {vs : List Value} {w : World} {R : Ending → World → Prop} (hf : P.funcs[f]? = some fn) (hb : fn.body = some c) (hn : fn.ntmps = k)
   (hl : Nat.ble vs.length k = true) (hw : C w) (h : CW P c (bodyPostM (Fw none) 0 P fn R) ⟨k, [], none⟩ (argEnv 0 vs) C) : Calls P f vs.toArray w R := by
 refine callsIn_wide.1 (callsIn_of_wp_marks (F := Fw none) hf hb trivial (h _ w ⟨rfl, ?_, ?_⟩ hw))
 · have := Nat.le_of_ble_eq_true hl
   simp [hn]; omega
 · intro t cs v ht
   obtain ⟨rfl, _, h3⟩ := look_argEnv vs 0 t cs v ht
   have hlt : t < vs.length := by have := (List.getElem?_eq_some_iff.1 h3).1; omega
   simp only [Nat.sub_zero] at h3
   simp [gval, Array.getElem?_append, hlt]
   simpa [hlt] using h3
theorem post_take {k b i : Nat} {D : List Deferred} {ro : Option Nat} {fn : Func} {R : Ending → World → Prop} (hi : nthA H i = some (obj b (.deferred (some []))))
   (h : Post ⟨k, D, ro⟩ E (Cl w0 fp (setA H i (obj b (.deferred none)))) (bodyPostM (Fw none) 0 P fn R) .ret) : Post ⟨k, mark b :: D, ro⟩ E (Cl w0 fp H) (bodyPostM (Fw none) 0 P fn R) .ret := fun a w ha hw => by
 have h1 := h { a with defers := D } _ ⟨rfl, ha.size, ha.has⟩ (cl_putObj _ hi hw)
 show LeavesInM (Fw none) 0 P fn a.tmps R a.defers .returning w
 rw [ha.defers]
 exact ⟨by simp, .inl ⟨b, _, rfl, run_takeDeferred (cl_obj_at hi hw), h1⟩⟩
theorem post_retM {k : Nat} {ro : Option Nat} {fn : Func} {R : Ending → World → Prop} (h : Post ⟨k, [], ro⟩ E C (bodyPost P fn R) .ret) : Post ⟨k, [], ro⟩ E C (bodyPostM (Fw none) 0 P fn R) .ret := fun a w ha hw => by
 obtain ⟨h1, v, h2, h3⟩ := h a w ha hw
 show LeavesInM (Fw none) 0 P fn a.tmps R a.defers .returning w
 rw [h1]
 exact ⟨v, h2, h3⟩
end
end Go.Sx

/- A call of yield within a region that draws its order: all that it waits for is quiet. General lemmas, no program text. -/
set_option autoImplicit false
namespace Go.Sx
open Enc (enc val)
section
variable {P : Program} {ops : Array Oper} {n : Fr} {E : Env} {C : World → Prop} {cs : List Bool} {o : Oper} {Q : Exit → Act → World → Prop}
def NoOut (Q : Exit → Act → World → Prop) : Exit → Act → World → Prop
 | .outgrown, _, _ => False
 | e, a, w => Q e a w
theorem noOut_not : ¬ LetsOut (NoOut Q) := fun ⟨_, _, h⟩ => h
theorem noOut_le {e : Exit} {a : Act} {w : World} (h : NoOut Q e a w) : Q e a w := by
 cases e <;> first | exact h | exact h.elim
instance [h : PanicOk Q] : PanicOk (NoOut Q) := ⟨h.ok⟩
theorem cw_noOut {c : Code} (h : CW P c (NoOut Q) n E C) : CW P c Q n E C := fun a w ha hw => wpIn_mono (h a w ha hw) fun _ _ _ h => noOut_le h
def AnyB (P : Program) (ops : Array Oper) (Q : Exit → Act → World → Prop) (S : World → Prop) (b : Nat) (Z : Array Bool → Act → World → Prop) : Nat → Array Bool → Act → World → Prop
 | 0, listed, a, w => Region.ready .any ops listed = [b] ∧ Z listed a w
 | f + 1, listed, a, w => (Region.ready .any ops listed = [] → Q .normal a w) ∧
   ∀ i ∈ Region.ready .any ops listed, wpOp P ops Q i (fun a' w' => (S w → S w') ∧ AnyB P ops Q S b Z f (listed.setIfInBounds i true) a' w') a w
variable {S : World → Prop} {b : Nat} {Z : Array Bool → Act → World → Prop}
theorem anyB_in {r : Option Nat} {f2 : Nat} (hd : noDefer ops = true) (hQ : ¬ LetsOut Q) (hZ : ∀ listed a w, Z listed a w → wpAnyIn (Fw r) 0 P .any ops Q f2 listed a w) : ∀ (f : Nat) (listed : Array Bool) (a : Act) (w : World), AnyB P ops Q S b Z f listed a w → wpAnyIn (Fw r) 0 P .any ops Q (f2 + f) listed a w
 | 0, _, _, _, h => hZ _ _ _ h.2
 | f + 1, listed, a, w, h => by
   refine ⟨h.1, fun i hi => ?_⟩
   have h2 := h.2 i hi
   unfold wpOp at h2
   unfold wpOpIn
   cases ho : ops[i]? with
   | none => rw [ho] at h2; exact anyB_in hd hQ hZ f _ _ _ h2.2
   | some o =>
     rw [ho] at h2
     simp only at h2 ⊢
     split at h2
     · rename_i hw
       rw [if_pos hw]
       rcases h2 with h2 | h2
       · exact Oper.in_of_wp (noDefer_spec hd ho) hQ (Oper.wp_mono (fun a' w' h3 => anyB_in hd hQ hZ f _ _ _ h3.2) h2)
       · exact absurd h2.2 hQ
     · rename_i hw
       rw [if_neg hw]
       exact ⟨fun _ _ => trivial, anyB_in hd hQ hZ f _ _ _ h2.2⟩
theorem anyB_first {T : World → Prop} {i : Nat} {oi : Oper} {v : Value} (hi : ops[i]? = some oi) (hsel : ∀ (j : Nat) (o : Oper) cs b, ops[j]? = some o → o.op ≠ .select cs b)
   (hQ : ∀ c a w, Q (.panic c) (a.put oi.dst v) w → Q (.panic c) a w) (hT : (∀ w, T w) ∨ T = S) (hreach : reachB ops i ops.size b = true) (hib : i ≠ b) :
   ∀ (f : Nat) (listed : Array Bool) (a : Act) (w : World), Closed ops listed → i < listed.size →
     (∀ j oj, ops[j]? = some oj → j ≠ i → listed.getD j true = false → (∀ e ∈ oj.after, Region.binds .any e = true → e.on ≠ i) → oi.apart ops oj = true) →
     i ∈ Region.ready .any ops listed → YieldsIf P ops T oi v a → T w →
     AnyB P ops Q S b Z f (listed.setIfInBounds i true) (a.put oi.dst v) w → AnyB P ops Q S b Z (f + 1) listed a w := by
 intro f
 induction f with
 | zero =>
   intro listed a w hcl _ _ hr hy hS H
   refine ⟨fun h => (by rw [h] at hr; cases hr), fun j hj => ?_⟩
   by_cases hji : j = i
   · subst hji; exact hy.wpOp hi hS ⟨fun h => h, H⟩
   · have h0 := ready_mono hj hji
     rw [H.1] at h0
     obtain rfl := List.mem_singleton.1 h0
     obtain ⟨_, oj, hoj, ha⟩ := mem_ready.1 hj
     have h1 := reach_listed hcl _ _ _ hoj ha hreach
     have hi0 := (mem_ready.1 hr).1
     rw [getD_tf h1] at hi0
     cases hi0
 | succ f ih =>
   intro listed a w hcl hsz hfree hr hy hS H
   refine ⟨fun h => (by rw [h] at hr; cases hr), fun j hj => ?_⟩
   by_cases hji : j = i
   · subst hji; exact hy.wpOp hi hS ⟨fun h => h, H⟩
   · have h1 := H.2 j (ready_mono hj hji)
     obtain ⟨hun, oj, hoj, hafter⟩ := mem_ready.1 hj
     have hi0 := (mem_ready.1 hr).1
     have hnot : ∀ e ∈ oj.after, Region.binds .any e = true → e.on ≠ i := by
       intro e he hb heq
       have h2 := hafter e he hb
       rw [heq] at h2
       simp [hsz] at hi0 h2
       rw [hi0] at h2
       cases h2
     have h2 := wpOp_putIf hoj (hfree j oj hoj hji hun hnot) (fun cs b => hsel i oi cs b hi) (fun cs b => hsel j oj cs b hoj) hQ hy h1
     refine wpOp_mono (fun a' w' h3 => ⟨h3.2.1, ih (listed.setIfInBounds j true) a' w' (hcl.set hj) (by simpa using hsz) ?_ (ready_mono hr (Ne.symm hji)) h3.1 (by
       rcases hT with hT | rfl
       · exact hT _
       · exact h3.2.1 hS) ?_⟩) h2
     · intro k ok hk hki hku hkn
       refine hfree k ok hk hki ?_ hkn
       by_cases hjk : j = k
       · subst hjk; exact hun
       · rw [getD_set_ne true hjk] at hku; exact hku
     · rw [Array.setIfInBounds_comm _ _ hji]
       exact h3.2.2
def AB (P : Program) (ops : Array Oper) (Q : Exit → Act → World → Prop) (S : World → Prop) (b : Nat) (Z : Array Bool → Act → World → Prop) (f : Nat) (listed : Array Bool) (n : Fr) (E : Env) (C : World → Prop) : Prop :=
 ∀ a w, Sat n E a → C w → AnyB P ops Q S b Z f listed a w
theorem cw_region_b {id : Nat} {l : List Oper} (S : World → Prop) (b f f2 : Nat) [hD : Drawn C] (hm : P.follows .mixedOrders = true) (hf : f2 + f = l.toArray.size) (h : AB P l.toArray (NoOut Q) S b (fun listed a w => wpAnyIn (Fw n.ro) 0 P .any l.toArray (NoOut Q) f2 listed a w) f (Array.replicate l.toArray.size false) n E C) (hnd : noDefer l.toArray = true := by kernel_rfl) :
   CW P (.region id l.toArray true) Q n E C := cw_noOut fun a w ha hw => wpIn_region_any hm (by
     have := anyB_in (r := n.ro) hnd noOut_not (fun _ _ _ h => h) f _ _ _ (h a _ ha (hD.drawn w hw))
     rwa [hf] at this)
def lateBB (ops : Array Oper) (b i : Nat) : Bool := reachB ops i ops.size b && !Nat.beq i b
theorem lateBB_ne {i : Nat} (h : lateBB ops b i = true) : i ≠ b := fun e => by subst e; simp [lateBB] at h
theorem lateBB_r {i : Nat} (h : lateBB ops b i = true) : reachB ops i ops.size b = true := by simp [lateBB] at h; exact h.1
theorem ab_take {f : Nat} {listed : Array Bool} (i : Nat) {o : Oper} {d : Nat} {cs : List Bool} {v : Value} [hP : PanicOk Q] (hS : ∀ w, C w → S w) (hi : ops[i]? = some o) (hs : Region.noSelect ops = true) (hl : lateBB ops b i = true) (hcl : closedB ops listed = true)
   (hf : Region.free .any ops listed i = true) (hr : (Region.ready .any ops listed).contains i = true) (hz : Nat.blt i listed.size = true)
   (hg : gof ops E o.guard = some cs) (hd : o.dst = some d) (hn : Nat.ble (d + 1) n.sz = true) (hop : OpR P n E S cs o v)
   (h : AB P ops Q S b Z f (listed.setIfInBounds i true) n ((d, cs, v) :: E) C) : AB P ops Q S b Z (f + 1) listed n E C := by
 intro a w ha hw
 have hgs := gof_spec ha hg
 have hdn : d < n.sz := Nat.le_of_ble_eq_true hn
 refine anyB_first (T := S) (v := gval cs v) hi (Region.noSelect_spec hs) (fun c a w hq => hP.ok c a _ _ w hq) (.inr rfl) (lateBB_r hl) (lateBB_ne hl) f listed a w (closedB_spec hcl) (blt_lt hz) (Region.free_spec hi hf) (by simpa using hr) ?_ (hS w hw) ?_
 · by_cases hc : AllT cs
   · exact .inl ⟨hgs.1 hc, fun w' hw' => by rw [gval_of hc]; exact hop a ha hc w' hw'⟩
   · exact .inr ⟨hgs.2 hc, gval_not hc⟩
 · have := h _ w (ha.put (cs := cs) (v := v) hdn) hw
   rw [hd]; exact this
theorem ab_pure {f : Nat} {listed : Array Bool} (i : Nat) {o : Oper} {d : Nat} {cs : List Bool} {v : Value} [hP : PanicOk Q] (hi : ops[i]? = some o) (hl : (Region.noSelect ops && lateBB ops b i) = true) (hcl : closedB ops listed = true)
   (hf : Region.free .any ops listed i = true) (hr : (Region.ready .any ops listed).contains i = true) (hz : Nat.blt i listed.size = true)
   (hg : gof ops E o.guard = some cs) (hd : o.dst = some d) (hn : Nat.ble (d + 1) n.sz = true) (hop : OpR P n E (fun _ => True) cs o v)
   (h : AB P ops Q S b Z f (listed.setIfInBounds i true) n ((d, cs, v) :: E) C) : AB P ops Q S b Z (f + 1) listed n E C := by
 intro a w ha hw
 have hgs := gof_spec ha hg
 have hdn : d < n.sz := Nat.le_of_ble_eq_true hn
 rw [Bool.and_eq_true] at hl
 refine anyB_first (T := fun _ => True) (v := gval cs v) hi (Region.noSelect_spec hl.1) (fun c a w hq => hP.ok c a _ _ w hq) (.inl fun _ => trivial) (lateBB_r hl.2) (lateBB_ne hl.2) f listed a w (closedB_spec hcl) (blt_lt hz) (Region.free_spec hi hf) (by simpa using hr) ?_ trivial ?_
 · by_cases hc : AllT cs
   · exact .inl ⟨hgs.1 hc, fun w' hw' => by rw [gval_of hc]; exact hop a ha hc w' hw'⟩
   · exact .inr ⟨hgs.2 hc, gval_not hc⟩
 · have := h _ w (ha.put (cs := cs) (v := v) hdn) hw
   rw [hd]; exact this
theorem ab_qc {f : Nat} {listed : Array Bool} (i : Nat) {d : Nat} {v : Value} (hr : Region.ready .any ops listed = [i]) (hi : ops[i]? = some o) (hg : gof ops E o.guard = some cs) (hcs : AllT cs) (hd : o.dst = some d) (hn : Nat.ble (d + 1) n.sz = true)
   (hop : OpQ P n E C cs o v) (hS : false = false → ∀ w, C w → S w) (h : AB P ops Q S b Z f (listed.setIfInBounds i true) n ((d, [], v) :: E) C) : AB P ops Q S b Z (f + 1) listed n E C := by
 intro a w ha hw
 refine ⟨fun h0 => (by rw [hr] at h0; cases h0), fun j hj => ?_⟩
 rw [hr] at hj
 obtain rfl := List.mem_singleton.1 hj
 unfold wpOp
 simp only [hi]
 rw [if_pos ((gof_spec ha hg).1 hcs)]
 refine .inl ((quiet_eff (hop a ha hcs w hw) hw).wp fun v' w' hR => ?_)
 obtain ⟨rfl, hC⟩ := hR
 refine ⟨fun _ => hS rfl _ hC, ?_⟩
 have := h _ w' (ha.put (cs := []) (v := v') (Nat.le_of_ble_eq_true hn)) hC
 rw [hd]; exact this
theorem opr_skip (v : Value) (h : ¬ AllT cs) : OpR P n E C cs o v := fun _ _ hc => absurd hc h
theorem ab_yield {f2 : Nat} {listed : Array Bool} {d l : Nat} {S' : World → Prop} {m' : List Nat} {x : Operand} {cx : List Bool} {asg : List Operand} {ts : Array TypeId} {vs : List Value} {R : Bool → World → Prop} (hr : Region.ready .any ops listed = [b]) (hi : ops[b]? = some o) (hg : gof ops E o.guard = some cs) (hcs : AllT cs) (hd : o.dst = some d) (hn : Nat.ble (d + 1) n.sz = true)
   (ho : o.op = .call { callee := .value x, args := asg.toArray, argTypes := ts }) (hx : evl E x = some (cx, .func (.yield l) #[] #[])) [sx : Sub cx cs] (hv : Evs E cs asg vs)
   (hy : ∀ w, C w → Asks P l vs w R) (hnd : noDefer ops = true) (hQ : ¬ LetsOut Q) (h : ∀ c, AW P ops Q S' m' f2 (listed.setIfInBounds b true) n ((d, [], .bool c) :: E) (R c)) : AB P ops Q S b (fun listed a w => wpAnyIn (Fw n.ro) 0 P .any ops Q (f2 + 1) listed a w) 0 listed n E C := by
 intro a w ha hCw
 refine ⟨hr, fun h0 => (by rw [hr] at h0; cases h0), fun j hj => ?_⟩
 rw [hr] at hj
 obtain rfl := List.mem_singleton.1 hj
 unfold wpOpIn
 simp only [hi]
 rw [if_pos ((gof_spec ha hg).1 hcs)]
 obtain ⟨g, tmps, assign, body, hrr, hround⟩ := hy w hCw
 refine ⟨fun _ _ => trivial, ?_⟩
 rw [Oper.semAt_eq _ _ _ (by rw [ho]; intro c hc; cases hc)]
 have e : (execOp a.eval o).run P w = .ok (.round l g tmps assign body) w := by
   unfold execOp
   simp only [ho]
   simp only [resolve, ha.eval hx sx hcs, Deferred.ofValue, invoke, List.map_toArray, hv.eval ha hcs, Sem.run_bind, Sem.run_pure, Result.andThen_ok]
   simpa using hrr
 rw [e]
 refine ⟨fun h => by simp at h, RoundIn.mono (F := Fw n.ro) hround ?_⟩
 rintro e w' ⟨c, rfl, hR⟩
 have h1 := h c _ w' (ha.put (cs := []) (v := .bool c) (Nat.le_of_ble_eq_true hn)) hR
 refine any_in hnd hQ f2 _ _ _ (anyS_any (S := S') (m := m') _ _ _ _ ?_)
 rw [hd]; exact h1
end
end Go.Sx

set_option autoImplicit false
set_option maxRecDepth 100000
namespace Go.Proofs.YtkmbliojafefdaaGreatDoor
open Go.Sx
open Enc (enc val)
def cOne (e : XL) (a : Int) : Cond := ⟨a, lookC e.wl (e.at_ + a)⟩
def candB (e : XL) (a : Int) : Int → Nat → List TT
 | _, 0 => []
 | b, n + 1 => if b = 0 then candB e a (b + 1) n else ⟨a, lookC e.wl (e.at_ + a), b, lookC e.wl (e.at_ + b)⟩ :: candB e a (b + 1) n
def candL (e : XL) (r : Int) : Int → Nat → List TT
 | _, 0 => []
 | a, n + 1 => if a = 0 then candL e r (a + 1) n else ⟨a, lookC e.wl (e.at_ + a), 0, 0⟩ :: (candB e a (a + 1) (r - a).toNat ++ candL e r (a + 1) n)
def cands (e : XL) (r : Int) : List TT := candL e r (-r) (2 * r + 1).toNat
theorem makeCands_spec (e : XL) (r : Int) (w : World) : Calls Tryz.prog 186 #[val e, .int .i64 r] w fun e' w' => ∃ b : Nat × Nat, e' = .returned (.func (.func 202) #[] #[.pointer (some ⟨b.1, 0, none⟩), .pointer (some ⟨b.2, 0, none⟩)]) ∧ True ∧ Cl w [] [blk b.1 [.int .i64 r] 3, blk b.2 (enc e) 179] w' := by
 refine calls_cw (vs := [_, _]) Tryz.func186 rfl Tryz.ntmps186 rfl (Cl.start0 w) (zr ?_)
 refine sw_x rfl rfl rfl (e_box rfl rfl rfl) (fun b2 => ?_)
 refine sw_x rfl rfl rfl (e_box rfl rfl rfl) (fun b3 => ?_)
 refine za rfl (nP (zr (zS rfl (q_func_l rfl (.k rfl (.k rfl (.nil)))) (za rfl (sw_nil (post_then (cw_ret (post_ret1 rfl (resOk_tmp rfl) ?_))))))))
 exact fun w' hw => ⟨(_, _), rfl, trivial, hw⟩
theorem cands_spec {S : Type} (l bR bE : Nat) (e : XL) (r : Int) (hr : 1 ≤ r ∧ r ≤ 3) (hat : 0 ≤ e.at_ ∧ e.at_ ≤ 1000) (w0 : World) (fp : List Nat) (G : S → List Asn) (ok : List TT → S → Prop) (s0 : S) (hword : ∀ s X w, Cl w0 fp (X ++ G s) w → Stb w [] (RdL e.w.v e.wl))
   (hA : ∀ t rest s, ok (t :: rest) s → ∀ X w, Cl w0 fp (X ++ G s) w → Asks Tryz.prog l [val t] w fun c w' => c = true ∧ ∃ s', ok rest s' ∧ Cl w0 fp (X ++ G s') w')
   (h0 : ok (cands e r) s0) (w : World) (hw : Cl w0 fp ([blk bR [.int .i64 r] 3, blk bE (enc e) 179] ++ G s0) w) :
   Calls Tryz.prog 202 #[.func (.yield l) #[] #[], .pointer (some ⟨bR, 0, none⟩), .pointer (some ⟨bE, 0, none⟩)] w fun e' w' => e' = .returned (.tuple #[]) ∧ ∃ s', ok [] s' ∧ Cl w0 fp ([blk bR [.int .i64 r] 3, blk bE (enc e) 179] ++ G s') w' := by
 have hw' : Cl w0 fp (blk bR [.int .i64 r] 3 :: blk bE (enc e) 179 :: G s0) w := hw
 refine calls_cw (vs := [_, _, _]) Tryz.func202 rfl Tryz.ntmps202 rfl hw' (zr ?_)
 refine zS rfl (q_loadC rfl rfl (by exact .head _) rfl) ?_
 refine zS rfl (q_neg rfl rfl (by intro hc; omega)) ?_
 refine za rfl (nP (cw_block ?_))
 refine cw_loop (S := Int × Nat × S) (fun x => [(0, [], .func (.yield l) #[] #[]), (1, [], .pointer (some ⟨bR, 0, none⟩)), (2, [], .pointer (some ⟨bE, 0, none⟩)), (4, [], .int .i64 x.1)]) (fun x => Cl w0 fp (blk bR [.int .i64 r] 3 :: blk bE (enc e) 179 :: G x.2.2)) (fun x => -r ≤ x.1 ∧ x.1 + x.2.1 = r + 1 ∧ ok (candL e r x.1 x.2.1) x.2.2) (fun x => x.2.1) (-r, (2 * r + 1).toNat, s0) ⟨by simp only; omega, by simp only; omega, h0⟩ (by exact .cons rfl (.cons rfl (.cons rfl (.cons rfl .nil)))) (fun _ h => h) ?_
 rintro ⟨a, n, s⟩ ⟨ha, han, hok⟩
 dsimp only at ha han hok ⊢
 refine cw_seq (zr (zm rfl ?_))
 refine zS rfl (q_loadC rfl rfl (by exact .head _) rfl) ?_
 refine zS rfl (q_leq rfl rfl rfl) (nP ?_)
 refine cw_cond rfl (fun h => ?_) (fun h => ?_)
 · obtain ⟨m, rfl⟩ : ∃ m, n = m + 1 := ⟨n - 1, by simp at h; omega⟩
   refine sP (cw_seq (cw_block (cw_seq (zr (zm rfl (zS rfl (q_eql rfl rfl rfl) (nP ?_)))))))
   refine cw_cond rfl (fun h2 => ?_) (fun h2 => ?_)
   · have h3 : a = 0 := by simpa using h2
     have hok2 : ok (candL e r (a + 1) m) s := by
       unfold candL at hok
       rwa [if_pos h3] at hok
     refine cw_exit (post_then_x (post_blk_eq (post_then (cw_region (zm rfl ?_)))))
     refine zS rfl (q_add rfl rfl rfl (by intro hc; omega)) ?_
     refine za rfl (sw_nil ?_)
     exact post_next (a + 1, m, s) (by exact .cons rfl (.cons rfl (.cons rfl (.cons rfl .nil)))) (fun _ h => h) ⟨by simp only; omega, by simp only; omega, hok2⟩ (by simp only; omega)
   · have h3 : ¬ a = 0 := by simpa using h2
     have hok2 : ok (⟨a, lookC e.wl (e.at_ + a), 0, 0⟩ :: (candB e a (a + 1) (r - a).toNat ++ candL e r (a + 1) m)) s := by
       unfold candL at hok
       rwa [if_neg h3] at hok
     refine sP (zr (zm rfl (zS rfl (q_fieldAddr rfl rfl) ?_)))
     refine zS rfl (q_loadC rfl rfl (by exact .tail _ (.head _)) rfl) ?_
     refine zS rfl (q_fieldAddr rfl rfl) ?_
     refine zS rfl (q_loadC rfl rfl (by exact .tail _ (.head _)) rfl) ?_
     refine zm rfl ?_
     refine zS rfl (q_add rfl rfl rfl (by intro hc; omega)) ?_
     refine sw_step rfl rfl rfl (q_call (CanCall.mk Tryz.call170) rfl (.k rfl (.k rfl (.nil))) (fun _ w1 hw1 => callq hw1 (look_spec _ e.wl _ w1 (hword s [_, _] w1 hw1)))) (zS rfl (q_build rfl (.k rfl (.k rfl (.nil))) rfl) ?_)
     refine sw_x rfl rfl rfl (e_alloc rfl) (fun b5 => ?_)
     refine sw_eff0 rfl rfl (e_store (i := 0) rfl rfl rfl rfl rfl rfl rfl rfl) (nP (cw_seq (zr (zm rfl ?_))))
     refine zS rfl (q_loadA rfl rfl (by exact .head _) rfl) ?_
     refine zS rfl (q_buildA rfl (.k rfl (.nil)) rfl) ?_
     refine sw_yield rfl rfl rfl rfl rfl (.k rfl (.nil)) (hA ⟨a, lookC e.wl (e.at_ + a), 0, 0⟩ _ s hok2 [blk b5 (enc (cOne e a)) 109, blk bR [.int .i64 r] 3, blk bE (enc e) 179]) (fun c => ?_)
     refine sw_imp fun hc => ?_
     subst hc
     refine sw_ex fun s2 => sw_imp fun hs2 => (sw_le (C' := Cl w0 fp (blk b5 (enc (cOne e a)) 109 :: blk bR [.int .i64 r] 3 :: blk bE (enc e) 179 :: G s2)) (fun w' h => h) (zS rfl (q_not rfl rfl) (nP ?_)))
     refine cw_cond rfl (fun h4 => ?_) (fun h4 => ?_)
     · cases h4
     · refine sP (zr (zm rfl ?_))
       refine zS rfl (q_add rfl rfl rfl (by intro hc; omega)) ?_
       refine za rfl (nP (cw_block ?_))
       refine cw_loop (S := Int × Nat × S) (fun x => [(0, [], .func (.yield l) #[] #[]), (1, [], .pointer (some ⟨bR, 0, none⟩)), (2, [], .pointer (some ⟨bE, 0, none⟩)), (4, [], .int .i64 a), (5, [], .pointer (some ⟨b5, 0, none⟩)), (6, [], .int .i64 x.1)]) (fun x => Cl w0 fp (blk b5 (enc (cOne e a)) 109 :: blk bR [.int .i64 r] 3 :: blk bE (enc e) 179 :: G x.2.2)) (fun x => a < x.1 ∧ x.1 + x.2.1 = r + 1 ∧ ok (candB e a x.1 x.2.1 ++ candL e r (a + 1) m) x.2.2) (fun x => x.2.1) (a + 1, (r - a).toNat, s2) ⟨by simp only; omega, by simp only; omega, hs2⟩ (by exact .cons rfl (.cons rfl (.cons rfl (.cons rfl (.cons rfl (.cons rfl .nil)))))) (fun _ h => h) ?_
       rintro ⟨b, k, s3⟩ ⟨hab, hbk, hok3⟩
       dsimp only at hab hbk hok3 ⊢
       refine cw_seq (zr (zm rfl ?_))
       refine zS rfl (q_loadC rfl rfl (by exact .tail _ (.head _)) rfl) ?_
       refine zS rfl (q_leq rfl rfl rfl) (nP ?_)
       refine cw_cond rfl (fun h5 => ?_) (fun h5 => ?_)
       · obtain ⟨q, rfl⟩ : ∃ q, k = q + 1 := ⟨k - 1, by simp at h5; omega⟩
         refine sP (cw_seq (cw_block (cw_seq ?_)))
         by_cases hb : b = 0
         · have hok4 : ok (candB e a (b + 1) q ++ candL e r (a + 1) m) s3 := by
             unfold candB at hok3
             rwa [if_pos hb] at hok3
           refine cw_region_a (Cl w0 fp [blk b5 (enc (cOne e a)) 109, blk bR [.int .i64 r] 3, blk bE (enc e) 179]) [] mixed_Tryz ?_
           refine zp 0 rfl (q_move rfl rfl) ?_
           refine zp 1 rfl (q_neq rfl rfl rfl) ?_
           refine zp 2 rfl (q_move rfl rfl) ?_
           refine zp 3 rfl (q_move rfl rfl) ?_
           refine zk 4 (Cl.sel (by exact .take 0 rfl (.take 0 rfl (.take 0 rfl (.nil _))))) rfl (q_loadA rfl rfl (by exact .head _) rfl) ?_
           refine zp 5 rfl (q_move rfl rfl) ?_
           refine zk 6 (Cl.sel (by exact .take 0 rfl (.take 0 rfl (.take 0 rfl (.nil _))))) rfl (q_fieldAddr rfl rfl) ?_
           refine zk 7 (Cl.sel (by exact .take 0 rfl (.take 0 rfl (.take 0 rfl (.nil _))))) rfl (q_loadC rfl rfl (by exact .tail _ (.tail _ (.head _))) rfl) ?_
           refine zk 8 (Cl.sel (by exact .take 0 rfl (.take 0 rfl (.take 0 rfl (.nil _))))) rfl (q_fieldAddr rfl rfl) ?_
           refine zk 9 (Cl.sel (by exact .take 0 rfl (.take 0 rfl (.take 0 rfl (.nil _))))) rfl (q_loadC rfl rfl (by exact .tail _ (.tail _ (.head _))) rfl) ?_
           refine zp 10 rfl (q_move rfl rfl) ?_
           refine zp 11 rfl (q_add rfl rfl rfl (by intro hc; omega)) ?_
           refine zk 12 (Cl.sel (by exact .take 0 rfl (.take 0 rfl (.take 0 rfl (.nil _))))) rfl (opr_skip (.int .i32 0) (by simp [AllT, hb])) ?_
           refine zp 13 rfl (q_build rfl (.k rfl (.k rfl (.nil))) rfl) ?_
           refine zp 14 rfl (q_buildA rfl (.k rfl (.k rfl (.nil))) rfl) ?_
           refine zk 15 (Cl.sel (by exact .take 0 rfl (.take 0 rfl (.take 0 rfl (.nil _))))) rfl (opr_skip (.bool true) (by simp [AllT, hb])) ?_
           refine zp 16 rfl (q_not rfl rfl) ?_
           refine zp 17 rfl (q_and2 rfl rfl rfl) ?_
           refine aw_end (by kernel_rfl) ?_
           refine post_then ?_
           refine cw_cond rfl (fun h6 => ?_) (fun h6 => ?_)
           · simp [hb] at h6
           · refine cw_skip (post_blk (post_then (cw_region (zm rfl ?_))))
             refine zS rfl (q_add rfl rfl rfl (by intro hc; omega)) ?_
             refine za rfl (sw_nil ?_)
             exact post_next (b + 1, q, s3) (by exact .cons rfl (.cons rfl (.cons rfl (.cons rfl (.cons rfl (.cons rfl .nil)))))) (fun _ h => h) ⟨by simp only; omega, by simp only; omega, hok4⟩ (by simp only; omega)
         · have hok4 : ok (⟨a, lookC e.wl (e.at_ + a), b, lookC e.wl (e.at_ + b)⟩ :: (candB e a (b + 1) q ++ candL e r (a + 1) m)) s3 := by
             unfold candB at hok3
             rwa [if_neg hb] at hok3
           refine cw_region_b (Cl w0 fp [blk b5 (enc (cOne e a)) 109, blk bR [.int .i64 r] 3, blk bE (enc e) 179]) 15 15 3 mixed_Tryz rfl ?_
           refine ab_pure 0 rfl (by kernel_rfl) (by kernel_rfl) (by kernel_rfl) (by kernel_rfl) (by kernel_rfl) rfl rfl rfl (q_move rfl rfl) ?_
           refine ab_pure 1 rfl (by kernel_rfl) (by kernel_rfl) (by kernel_rfl) (by kernel_rfl) (by kernel_rfl) rfl rfl rfl (q_neq rfl rfl rfl) ?_
           refine ab_pure 2 rfl (by kernel_rfl) (by kernel_rfl) (by kernel_rfl) (by kernel_rfl) (by kernel_rfl) rfl rfl rfl (q_move rfl rfl) ?_
           refine ab_pure 3 rfl (by kernel_rfl) (by kernel_rfl) (by kernel_rfl) (by kernel_rfl) (by kernel_rfl) rfl rfl rfl (q_move rfl rfl) ?_
           refine ab_take 4 (Cl.sel (by exact .take 0 rfl (.take 0 rfl (.take 0 rfl (.nil _))))) rfl (by kernel_rfl) (by kernel_rfl) (by kernel_rfl) (by kernel_rfl) (by kernel_rfl) (by kernel_rfl) rfl rfl rfl (q_loadA rfl rfl (by exact .head _) rfl) ?_
           refine ab_pure 5 rfl (by kernel_rfl) (by kernel_rfl) (by kernel_rfl) (by kernel_rfl) (by kernel_rfl) rfl rfl rfl (q_move rfl rfl) ?_
           refine ab_take 6 (Cl.sel (by exact .take 0 rfl (.take 0 rfl (.take 0 rfl (.nil _))))) rfl (by kernel_rfl) (by kernel_rfl) (by kernel_rfl) (by kernel_rfl) (by kernel_rfl) (by kernel_rfl) rfl rfl rfl (q_fieldAddr rfl rfl) ?_
           refine ab_take 7 (Cl.sel (by exact .take 0 rfl (.take 0 rfl (.take 0 rfl (.nil _))))) rfl (by kernel_rfl) (by kernel_rfl) (by kernel_rfl) (by kernel_rfl) (by kernel_rfl) (by kernel_rfl) rfl rfl rfl (q_loadC rfl rfl (by exact .tail _ (.tail _ (.head _))) rfl) ?_
           refine ab_take 8 (Cl.sel (by exact .take 0 rfl (.take 0 rfl (.take 0 rfl (.nil _))))) rfl (by kernel_rfl) (by kernel_rfl) (by kernel_rfl) (by kernel_rfl) (by kernel_rfl) (by kernel_rfl) rfl rfl rfl (q_fieldAddr rfl rfl) ?_
           refine ab_take 9 (Cl.sel (by exact .take 0 rfl (.take 0 rfl (.take 0 rfl (.nil _))))) rfl (by kernel_rfl) (by kernel_rfl) (by kernel_rfl) (by kernel_rfl) (by kernel_rfl) (by kernel_rfl) rfl rfl rfl (q_loadC rfl rfl (by exact .tail _ (.tail _ (.head _))) rfl) ?_
           refine ab_pure 10 rfl (by kernel_rfl) (by kernel_rfl) (by kernel_rfl) (by kernel_rfl) (by kernel_rfl) rfl rfl rfl (q_move rfl rfl) ?_
           refine ab_pure 11 rfl (by kernel_rfl) (by kernel_rfl) (by kernel_rfl) (by kernel_rfl) (by kernel_rfl) rfl rfl rfl (q_add rfl rfl rfl (by intro hc; omega)) ?_
           refine ab_qc 12 (by kernel_rfl) rfl rfl (by first | (simp [AllT]; done) | simp [AllT, *]) rfl rfl (q_call (CanCall.mk Tryz.call170) rfl (.k rfl (.k rfl (.nil))) (fun _ w1 hw1 => callq hw1 (look_spec _ e.wl _ w1 (hword s3 [_, _, _] w1 hw1)))) (by intro hb; exact (Cl.sel (by exact .take 0 rfl (.take 0 rfl (.take 0 rfl (.nil _)))))) ?_
           refine ab_pure 13 rfl (by kernel_rfl) (by kernel_rfl) (by kernel_rfl) (by kernel_rfl) (by kernel_rfl) rfl rfl rfl (q_build rfl (.k rfl (.k rfl (.nil))) rfl) ?_
           refine ab_pure 14 rfl (by kernel_rfl) (by kernel_rfl) (by kernel_rfl) (by kernel_rfl) (by kernel_rfl) rfl rfl rfl (q_buildA rfl (.k rfl (.k rfl (.nil))) rfl) ?_
           refine ab_yield (S' := fun _ => True) (m' := []) (by kernel_rfl) rfl rfl (by first | (simp [AllT]; done) | simp [AllT, *]) rfl rfl rfl rfl (.k rfl (.nil)) (hA ⟨a, lookC e.wl (e.at_ + a), b, lookC e.wl (e.at_ + b)⟩ _ s3 hok4 [blk b5 (enc (cOne e a)) 109, blk bR [.int .i64 r] 3, blk bE (enc e) 179]) (by kernel_rfl) noOut_not (fun c => ?_)
           refine aw_imp fun hc => ?_
           subst hc
           refine aw_ex fun s4 => aw_imp fun hs4 => (aw_c (C' := Cl w0 fp (blk b5 (enc (cOne e a)) 109 :: blk bR [.int .i64 r] 3 :: blk bE (enc e) 179 :: G s4)) (fun w' h => h) ?_)
           refine zp 16 rfl (q_not rfl rfl) ?_
           refine zp 17 rfl (q_and2 rfl rfl rfl) ?_
           refine aw_end (by kernel_rfl) ?_
           refine post_then ?_
           refine cw_cond rfl (fun h6 => ?_) (fun h6 => ?_)
           · simp [hb] at h6
           · refine cw_skip (post_blk (post_then (cw_region (zm rfl ?_))))
             refine zS rfl (q_add rfl rfl rfl (by intro hc; omega)) ?_
             refine za rfl (sw_nil ?_)
             exact post_next (b + 1, q, s4) (by exact .cons rfl (.cons rfl (.cons rfl (.cons rfl (.cons rfl (.cons rfl .nil)))))) (fun _ h => h) ⟨by simp only; omega, by simp only; omega, hs4⟩ (by simp only; omega)
       · have hk0 : k = 0 := by simp at h5; omega
         subst hk0
         refine cw_exit (post_then_x (post_then_x (post_blk_eq (post_blk (post_then (cw_region (zm rfl ?_)))))))
         refine zS rfl (q_add rfl rfl rfl (by intro hc; omega)) ?_
         refine za rfl (sw_nil ?_)
         exact post_next (a + 1, m, s3) (by exact .cons rfl (.cons rfl (.cons rfl (.cons rfl .nil)))) (fun _ h => h.tail) ⟨by simp only; omega, by simp only; omega, hok3⟩ (by simp only; omega)
 · have hk0 : n = 0 := by simp at h; omega
   subst hk0
   refine cw_exit (post_then_x (post_then_x (post_blk_eq (post_end0 rfl ?_))))
   exact fun w' hw => ⟨rfl, s, hok, hw⟩
end Go.Proofs.YtkmbliojafefdaaGreatDoor

set_option autoImplicit false
set_option maxRecDepth 100000
namespace Go.Proofs.YtkmbliojafefdaaGreatDoor
open Go.Sx
open Enc (enc val)
structure Cmp {α : Type} (c : α → α → Int) (L : α → Prop) : Prop where
 neg : ∀ x y, L x → L y → (c x y < 0 ↔ 0 < c y x)
 tr : ∀ x y z, L x → L y → L z → c x y ≤ 0 → c y z ≤ 0 → c x z ≤ 0
theorem Cmp.zero {α : Type} {c : α → α → Int} {L : α → Prop} (h : Cmp c L) {x y : α} (hx : L x) (hy : L y) : c x y = 0 ↔ c y x = 0 := by
 have h1 := h.neg x y hx hy
 have h2 := h.neg y x hy hx
 omega
theorem Cmp.lt {α : Type} {c : α → α → Int} {L : α → Prop} (h : Cmp c L) {x y z : α} (hx : L x) (hy : L y) (hz : L z) (h1 : c x y ≤ 0) (h2 : c y z ≤ 0) (h3 : c x y < 0 ∨ c y z < 0) : c x z < 0 := by
 have h4 := h.tr x y z hx hy hz h1 h2
 have n1 := h.neg x z hx hz
 have n2 := h.neg z x hz hx
 have n3 := h.neg x y hx hy
 have n4 := h.neg y z hy hz
 have t1 := h.tr y z x hy hz hx h2
 have t2 := h.tr z x y hz hx hy
 omega
def lexC {α : Type} (c d : α → α → Int) (x y : α) : Int := if c x y ≠ 0 then c x y else d x y
theorem Cmp.lex {α : Type} {c d : α → α → Int} {L : α → Prop} (h : Cmp c L) (k : Cmp d L) : Cmp (lexC c d) L where
 neg x y hx hy := by
   have h1 := h.neg x y hx hy
   have h2 := h.neg y x hy hx
   have h3 := k.neg x y hx hy
   unfold lexC
   split <;> split <;> omega
 tr x y z hx hy hz h1 h2 := by
   have t1 := h.tr x y z hx hy hz
   have t2 := k.tr x y z hx hy hz
   have l1 := h.lt hx hy hz
   have z1 := h.zero hx hy
   have z2 := h.zero hy hz
   have z3 := h.zero hx hz
   have t3 := h.tr z y x hz hy hx
   have n3 := h.neg z x hz hx
   unfold lexC at h1 h2 ⊢
   split at h1 <;> split at h2 <;> split <;> omega
theorem lexC_zero {α : Type} {c d : α → α → Int} {x y : α} (h : lexC c d x y = 0) : c x y = 0 ∧ d x y = 0 := by
 unfold lexC at h
 split at h
 · rename_i h1; exact absurd h h1
 · rename_i h1; exact ⟨by simpa using h1, h⟩
theorem cmp_key {α : Type} (f : α → Int) (L : α → Prop) : Cmp (fun x y => sgn (f x - f y)) L where
 neg x y _ _ := by
   have h1 := @sgn_neg (f x - f y)
   have h2 := @sgn_le (f y - f x)
   constructor <;> intro h <;> omega
 tr x y z _ _ _ h1 h2 := by
   rw [sgn_le] at *; omega
theorem cmp_ordBy {α : Type} {c : α → α → Int} {L : α → Prop} (h : Cmp c L) : Cmp (ordBy c) fun l => ∀ x ∈ l, L x where
 neg a := by
   induction a with
   | nil => intro b _ _; cases b <;> simp [ordBy]
   | cons x a ih =>
     intro b ha hb
     cases b with
     | nil => simp [ordBy]
     | cons y b =>
       have h1 := h.neg x y (ha _ (.head _)) (hb _ (.head _))
       have h2 := h.neg y x (hb _ (.head _)) (ha _ (.head _))
       have h3 := ih b (fun u hu => ha u (.tail _ hu)) (fun u hu => hb u (.tail _ hu))
       unfold ordBy
       split <;> split <;> omega
 tr a := by
   induction a with
   | nil => intro b d _ _ _ _ _; cases d <;> simp [ordBy]
   | cons x a ih =>
     intro b d ha hb hd h1 h2
     cases b with
     | nil => simp [ordBy] at h1
     | cons y b =>
       cases d with
       | nil => simp [ordBy] at h2
       | cons z d =>
         have hx := ha _ (.head _)
         have hy := hb _ (.head _)
         have hz := hd _ (.head _)
         have t1 := h.tr x y z hx hy hz
         have l1 := h.lt hx hy hz
         have z1 := h.zero hx hy
         have z2 := h.zero hy hz
         have z3 := h.zero hx hz
         have t3 := h.tr z y x hz hy hx
         have n3 := h.neg z x hz hx
         have t2 := ih b d (fun u hu => ha u (.tail _ hu)) (fun u hu => hb u (.tail _ hu)) (fun u hu => hd u (.tail _ hu))
         unfold ordBy at h1 h2 ⊢
         split at h1 <;> split at h2 <;> split <;> omega
theorem ordBy_zero {α : Type} {c : α → α → Int} {L : α → Prop} (h : ∀ x y, L x → L y → c x y = 0 → x = y) : ∀ {a b : List α}, (∀ x ∈ a, L x) → (∀ x ∈ b, L x) → ordBy c a b = 0 → a = b
 | [], [], _, _, _ => rfl
 | [], _ :: _, _, _, e => by simp [ordBy] at e
 | _ :: _, [], _, _, e => by simp [ordBy] at e
 | x :: a, y :: b, ha, hb, e => by
   unfold ordBy at e
   split at e
   · rename_i h1
     rw [h x y (ha _ (.head _)) (hb _ (.head _)) h1, ordBy_zero h (fun u hu => ha u (.tail _ hu)) (fun u hu => hb u (.tail _ hu)) e]
   · rename_i h1; exact absurd e h1
theorem rank_inj {a b : Int} (h : rankC a = rankC b) : a = b := by
 unfold rankC at h
 split at h <;> split at h <;> omega
theorem orL1 (x : Int) : orL [x] = x := by
 unfold orL
 split
 · rename_i h; rw [h]; rfl
 · rfl
theorem orL2 (x y : Int) : orL [x, y] = if x ≠ 0 then x else y := by
 have h := orL1 y
 unfold orL
 by_cases hx : x = 0
 · rw [if_pos hx, if_neg (by simpa using hx), h]
 · rw [if_neg hx, if_pos hx]
theorem orL3 (x y z : Int) : orL [x, y, z] = if x ≠ 0 then x else if y ≠ 0 then y else z := by
 have h := orL2 y z
 unfold orL
 by_cases hx : x = 0
 · rw [if_pos hx, if_neg (by simpa using hx), h]
 · rw [if_neg hx, if_pos hx]
theorem condC_lex (x y : Cond) : condC x y = lexC (fun x y : Cond => sgn (rankC x.at_ - rankC y.at_)) (fun x y => sgn (x.c - y.c)) x y := orL2 _ _
theorem cmp_cond : Cmp condC fun _ => True := by
 have h := (cmp_key (fun x : Cond => rankC x.at_) fun _ => True).lex (cmp_key (fun x : Cond => x.c) fun _ => True)
 have e : condC = lexC (fun x y : Cond => sgn (rankC x.at_ - rankC y.at_)) (fun x y => sgn (x.c - y.c)) := by funext x y; exact condC_lex x y
 rw [e]; exact h
theorem condC_zero {x y : Cond} (h : condC x y = 0) : x = y := by
 rw [condC_lex] at h
 obtain ⟨h1, h2⟩ := lexC_zero h
 rw [sgn_zero] at h1 h2
 have h3 : x.at_ = y.at_ := rank_inj (by omega)
 have h4 : x.c = y.c := by omega
 cases x; cases y; simp at h3 h4; rw [h3, h4]
def ratC (a b : Tly) : Int := sgn (b.m * a.n - a.m * b.n)
theorem cmp_rat : Cmp ratC fun x => 0 < x.n where
 neg x y _ _ := by
   unfold ratC
   have h1 := @sgn_neg (y.m * x.n - x.m * y.n)
   have h2 := @sgn_le (x.m * y.n - y.m * x.n)
   constructor <;> intro h <;> omega
 tr x y z hx hy hz h1 h2 := by
   unfold ratC at *
   rw [sgn_le] at *
   have e1 : y.m * x.n ≤ x.m * y.n := by omega
   have e2 : z.m * y.n ≤ y.m * z.n := by omega
   have e3 : z.m * y.n * x.n ≤ y.m * z.n * x.n := Int.mul_le_mul_of_nonneg_right e2 (by omega)
   have e4 : y.m * x.n * z.n ≤ x.m * y.n * z.n := Int.mul_le_mul_of_nonneg_right e1 (by omega)
   have e5 : y.m * z.n * x.n = y.m * x.n * z.n := by rw [Int.mul_assoc, Int.mul_comm z.n x.n, ← Int.mul_assoc]
   have e6 : (z.m * x.n) * y.n ≤ (x.m * z.n) * y.n := by
     have a1 : z.m * x.n * y.n = z.m * y.n * x.n := by rw [Int.mul_assoc, Int.mul_comm x.n y.n, ← Int.mul_assoc]
     have a2 : x.m * z.n * y.n = x.m * y.n * z.n := by rw [Int.mul_assoc, Int.mul_comm z.n y.n, ← Int.mul_assoc]
     rw [a1, a2]; omega
   have e7 := Int.le_of_mul_le_mul_right e6 hy
   omega
theorem betC_lex (a b : Tly) : betC a b = lexC ratC (lexC (fun x y : Tly => sgn (-x.n - -y.n)) (lexC (fun x y : Tly => sgn ((x.t.list.length : Int) - y.t.list.length)) fun x y => ordBy condC x.t.list y.t.list)) a b := by
 have e : -a.n - -b.n = b.n - a.n := by omega
 have e2 : sgn (-a.n - -b.n) = sgn (b.n - a.n) := by rw [e]
 unfold betC lexC ratC
 simp only [e2, orL3]
 by_cases h1 : sgn (b.m * a.n - a.m * b.n) = 0
 · by_cases h2 : sgn (b.n - a.n) = 0
   · by_cases h3 : sgn ((a.t.list.length : Int) - b.t.list.length) = 0
     · simp [h1, h2, h3]
     · simp [h1, h2, h3]
   · simp [h1, h2]
 · simp [h1]
theorem cmp_bet : Cmp betC fun x => 0 < x.n := by
 have h4 : Cmp (fun x y : Tly => ordBy condC x.t.list y.t.list) fun x => 0 < x.n := ⟨fun x y _ _ => (cmp_ordBy cmp_cond).neg _ _ (fun _ _ => trivial) (fun _ _ => trivial), fun x y z _ _ _ => (cmp_ordBy cmp_cond).tr _ _ _ (fun _ _ => trivial) (fun _ _ => trivial) (fun _ _ => trivial)⟩
 have h := cmp_rat.lex ((cmp_key (fun x : Tly => -x.n) fun x => 0 < x.n).lex ((cmp_key (fun x : Tly => (x.t.list.length : Int)) fun x => 0 < x.n).lex h4))
 have e : betC = lexC ratC (lexC (fun x y : Tly => sgn (-x.n - -y.n)) (lexC (fun x y : Tly => sgn ((x.t.list.length : Int) - y.t.list.length)) fun x y => ordBy condC x.t.list y.t.list)) := by funext x y; exact betC_lex x y
 rw [e]; exact h
theorem betC_zero {a b : Tly} (h : betC a b = 0) : a.t.list = b.t.list := by
 rw [betC_lex] at h
 have h1 := (lexC_zero (lexC_zero (lexC_zero h).2).2).2
 exact ordBy_zero (L := fun _ => True) (fun x y _ _ => condC_zero) (fun _ _ => trivial) (fun _ _ => trivial) h1
theorem minBy_min {α : Type} [Inhabited α] {c : α → α → Int} {L : α → Prop} (h : Cmp c L) (hz : ∀ x y, L x → L y → c x y = 0 → x = y) {l : List α} (hl : ∀ x ∈ l, L x) (h0 : 0 < l.length) : ∀ x ∈ l, x = minBy c l ∨ c (minBy c l) x < 0 := by
 have key : ∀ (r : List α) (m : α) (p : List α), L m → (∀ x ∈ r, L x) → (∀ x ∈ p, L x) → (∀ y ∈ p, y = m ∨ c m y < 0) → ∀ y ∈ p ++ r, y = r.foldl (fun m x => if c x m < 0 then x else m) m ∨ c (r.foldl (fun m x => if c x m < 0 then x else m) m) y < 0 := by
   intro r
   induction r with
   | nil => intro m p _ _ _ hp y hy; exact hp y (by simpa using hy)
   | cons x r ih =>
     intro m p hm hr hpl hp
     rw [List.foldl_cons]
     have hx := hr x (.head _)
     have := ih (if c x m < 0 then x else m) (p ++ [x]) (by split <;> assumption) (fun u hu => hr u (.tail _ hu)) (fun u hu => by
       rcases List.mem_append.1 hu with hu | hu
       · exact hpl u hu
       · simp at hu; subst hu; exact hx) (fun y hy => by
       rcases List.mem_append.1 hy with hy | hy
       · rcases hp y hy with h1 | h1
         · split
           · rename_i h2; right; rw [h1]; exact h2
           · left; exact h1
         · split
           · rename_i h2; right; exact h.lt hx hm (hpl y hy) (by omega) (by omega) (.inl h2)
           · right; exact h1
       · simp at hy
         subst hy
         split
         · left; rfl
         · rename_i h2
           by_cases h3 : c y m = 0
           · left; exact hz _ _ hx hm h3
           · right
             have := h.neg m y hm hx
             have := h.neg y m hx hm
             omega)
     intro y hy
     exact this y (by simpa using hy)
 intro x hx
 have h1 : [nth l 0] ++ l.drop 1 = l := by
   rw [nth_get h0]
   cases l with
   | nil => simp at h0
   | cons a l => simp
 have := key (l.drop 1) (nth l 0) [nth l 0] (hl _ (nth_mem h0)) (fun u hu => hl u (List.mem_of_mem_drop hu)) (fun u hu => by simp at hu; subst hu; exact hl _ (nth_mem h0)) (fun y hy => by simp at hy; left; exact hy) x (by rw [h1]; exact hx)
 exact this
theorem minBy_eq {α : Type} [Inhabited α] {c : α → α → Int} {L : α → Prop} (h : Cmp c L) (hz : ∀ x y, L x → L y → c x y = 0 → x = y) {l m : List α} (hl : ∀ x ∈ l, L x) (h0 : 0 < l.length) (hlm : ∀ x, x ∈ l ↔ x ∈ m) : minBy c l = minBy c m := by
 have h1 : 0 < m.length := by
   cases m with
   | nil => exact absurd ((hlm _).1 (nth_mem h0)) (by simp)
   | cons => simp
 have hm : ∀ x ∈ m, L x := fun x hx => hl x ((hlm x).2 hx)
 have m1 := minBy_mem c h0
 have m2 := minBy_mem c h1
 have a1 := minBy_min h hz hl h0 _ ((hlm _).2 m2)
 have a2 := minBy_min h hz hm h1 _ ((hlm _).1 m1)
 rcases a1 with e | a1
 · exact e.symm
 · rcases a2 with e | a2
   · exact e
   · have := h.neg _ _ (hl _ m1) (hm _ m2)
     omega
end Go.Proofs.YtkmbliojafefdaaGreatDoor

set_option autoImplicit false
set_option maxRecDepth 100000
namespace Go.Proofs.YtkmbliojafefdaaGreatDoor
open Go.Sx
open Enc (enc val)
structure CandOk (e : XL) (r : Int) (t : TT) : Prop where
 b1 : -r ≤ t.a1 ∧ t.a1 ≤ r ∧ t.a1 ≠ 0
 c1 : t.c1 = lookC e.wl (e.at_ + t.a1)
 sh : (t.a2 = 0 ∧ t.c2 = 0) ∨ (t.a2 ≠ 0 ∧ t.a1 < t.a2 ∧ t.a2 ≤ r ∧ t.c2 = lookC e.wl (e.at_ + t.a2))
theorem candB_ok {e : XL} {a : Int} {t : TT} : ∀ {n : Nat} {b : Int}, t ∈ candB e a b n → t.a1 = a ∧ t.c1 = lookC e.wl (e.at_ + a) ∧ t.a2 ≠ 0 ∧ b ≤ t.a2 ∧ t.a2 < b + n ∧ t.c2 = lookC e.wl (e.at_ + t.a2)
 | 0, b, h => by simp [candB] at h
 | n + 1, b, h => by
   unfold candB at h
   split at h
   · obtain ⟨h1, h2, h3, h4, h5, h6⟩ := candB_ok h
     exact ⟨h1, h2, h3, by omega, by omega, h6⟩
   · rename_i hb
     rcases List.mem_cons.1 h with rfl | h
     · exact ⟨rfl, rfl, hb, by simp only; omega, by simp only; omega, rfl⟩
     · obtain ⟨h1, h2, h3, h4, h5, h6⟩ := candB_ok h
       exact ⟨h1, h2, h3, by omega, by omega, h6⟩
theorem candB_nodup {e : XL} {a : Int} : ∀ {n : Nat} {b : Int}, (candB e a b n).Nodup
 | 0, b => by simp [candB]
 | n + 1, b => by
   unfold candB
   split
   · exact candB_nodup
   · refine List.nodup_cons.2 ⟨fun h => ?_, candB_nodup⟩
     have := (candB_ok h).2.2.2.1
     simp only at this; omega
theorem candL_ok {e : XL} {r : Int} {t : TT} : ∀ {n : Nat} {a : Int}, -r ≤ a → a + n = r + 1 → t ∈ candL e r a n → a ≤ t.a1 ∧ CandOk e r t
 | 0, a, _, _, h => by simp [candL] at h
 | n + 1, a, h0, h1, h => by
   unfold candL at h
   split at h
   · have := candL_ok (n := n) (a := a + 1) (by omega) (by omega) h
     exact ⟨by omega, this.2⟩
   · rename_i ha
     rcases List.mem_cons.1 h with rfl | h
     · exact ⟨by simp only; omega, ⟨by simp only; omega, rfl, .inl ⟨rfl, rfl⟩⟩⟩
     · rcases List.mem_append.1 h with h | h
       · obtain ⟨h1', h2, h3, h4, h5, h6⟩ := candB_ok h
         exact ⟨by omega, ⟨by omega, by rw [h2, h1'], .inr ⟨h3, by omega, by omega, h6⟩⟩⟩
       · have := candL_ok (n := n) (a := a + 1) (by omega) (by omega) h
         exact ⟨by omega, this.2⟩
theorem candL_nodup {e : XL} {r : Int} : ∀ {n : Nat} {a : Int}, -r ≤ a → a + n = r + 1 → (candL e r a n).Nodup
 | 0, a, _, _ => by simp [candL]
 | n + 1, a, h0, h1 => by
   unfold candL
   split
   · exact candL_nodup (by omega) (by omega)
   · refine List.nodup_cons.2 ⟨fun h => ?_, List.nodup_append.2 ⟨candB_nodup, candL_nodup (by omega) (by omega), fun x hx y hy hxy => ?_⟩⟩
     · rcases List.mem_append.1 h with h | h
       · have := (candB_ok h).2.2.1
         simp at this
       · have := (candL_ok (by omega) (by omega) h).1
         simp only at this; omega
     · subst hxy
       have a1 := (candB_ok hx).1
       have a2 := (candL_ok (by omega) (by omega) hy).1
       omega
variable {e : XL} {r : Int} {t : TT}
theorem cands_ok (hr : 1 ≤ r) (h : t ∈ cands e r) : CandOk e r t := (candL_ok (by omega) (by omega) h).2
theorem cands_nodup (hr : 1 ≤ r) : (cands e r).Nodup := candL_nodup (by omega) (by omega)
theorem CandOk.bd (h : CandOk e r t) (hr : 1 ≤ r ∧ r ≤ 3) : TTB t := by
 have h1 := h.b1
 have h2 := h.sh
 refine ⟨by omega, ?_⟩
 rcases h2 with h2 | h2 <;> omega
theorem CandOk.holds (h : CandOk e r t) : holdsC e.wl e.at_ t.list = true := by
 have h1 := h.c1
 unfold holdsC TT.list
 rcases h.sh with ⟨h2, h3⟩ | ⟨h2, _, _, h3⟩
 · rw [if_pos h2]; simp [h1]
 · rw [if_neg h2]; simp [h1, h3]
theorem tt_inj {e e' : XL} {t t' : TT} (h : CandOk e r t) (h' : CandOk e' r t') (hl : t.list = t'.list) : t = t' := by
 obtain ⟨a1, c1, a2, c2⟩ := t
 obtain ⟨d1, f1, d2, f2⟩ := t'
 have s1 := h.sh
 have s2 := h'.sh
 simp only at s1 s2
 unfold TT.list at hl
 simp only at hl
 rcases s1 with ⟨u1, u2⟩ | ⟨u1, _⟩ <;> rcases s2 with ⟨v1, v2⟩ | ⟨v1, _⟩
 · rw [if_pos u1, if_pos v1] at hl
   simp at hl
   simp [hl, u1, u2, v1, v2]
 · rw [if_pos u1, if_neg v1] at hl
   simp at hl
 · rw [if_neg u1, if_pos v1] at hl
   simp at hl
 · rw [if_neg u1, if_neg v1] at hl
   simp at hl
   simp [hl]
def heldC (l : List XL) (r : Int) (k : TT) : List XL := l.filter fun e => decide (k ∈ cands e r)
theorem held_take {l : List XL} {i : Nat} (hi : i < l.length) (k : TT) : heldC (l.take (i + 1)) r k = heldC (l.take i) r k ++ if k ∈ cands (nth l i) r then [nth l i] else [] := by
 unfold heldC
 rw [List.take_succ_eq_append_getElem hi, List.filter_append, nth_get hi]
 congr 1
 by_cases h : k ∈ cands l[i] r <;> simp [h]
theorem held_le (l : List XL) (k : TT) : (heldC l r k).length ≤ l.length := List.length_filter_le _ _
def tlyOf (l : List XL) (r : Int) (t : TT) : Tly := ⟨t, (mostC (heldC l r t)).s, (heldC l r t).length, (mostC (heldC l r t)).m, (mostC (heldC l r t)).b⟩
def tallies (l : List XL) (r least : Int) : List Tly := ((l.flatMap fun e => cands e r).map (tlyOf l r)).filter fun x => decide (least ≤ x.n)
def bestC (l : List XL) (r least : Int) : Option Tly := if tallies l r least = [] then none else some (minBy betC (tallies l r least))
theorem most_bd (l : List XL) : 0 ≤ (mostC l).m ∧ (mostC l).m ≤ l.length := by
 have key : ∀ (q : List XL) (s : MS), (0 ≤ s.m ∧ s.m ≤ l.length) → 0 ≤ (q.foldl (mostStep l) s).m ∧ (q.foldl (mostStep l) s).m ≤ l.length := by
   intro q
   induction q with
   | nil => intro s h; exact h
   | cons x q ih =>
     intro s h
     rw [List.foldl_cons]
     apply ih
     unfold mostStep
     split
     · have := cnt_le l x.pl
       simp only; omega
     · exact h
 exact key l _ ⟨by simp, by simp⟩
theorem mem_tallies {l : List XL} {least : Int} {x : Tly} : x ∈ tallies l r least ↔ ∃ e ∈ l, ∃ t ∈ cands e r, tlyOf l r t = x ∧ least ≤ x.n := by
 unfold tallies
 simp only [List.mem_filter, List.mem_map, List.mem_flatMap, decide_eq_true_eq]
 constructor
 · rintro ⟨⟨t, ⟨e, he, ht⟩, rfl⟩, h⟩
   exact ⟨e, he, t, ht, rfl, h⟩
 · rintro ⟨e, he, t, ht, rfl, h⟩
   exact ⟨⟨t, ⟨e, he, ht⟩, rfl⟩, h⟩
def IsT (l : List XL) (r least : Int) (x : Tly) : Prop := ∃ e ∈ l, ∃ t ∈ cands e r, tlyOf l r t = x ∧ least ≤ x.n
theorem isT_bd {l : List XL} {least : Int} {x : Tly} (hr : 1 ≤ r ∧ r ≤ 3) (hl : l.length ≤ 1000000) (h : IsT l r least x) : TlyB x := by
 obtain ⟨e, _, t, ht, rfl, _⟩ := h
 have h1 := most_bd (heldC l r t)
 have h2 := held_le (r := r) l t
 exact ⟨(cands_ok hr.1 ht).bd hr, ⟨by unfold tlyOf; simp, by unfold tlyOf; simp only; omega⟩, by unfold tlyOf; exact h1.1, by unfold tlyOf; simp only; omega⟩
theorem isT_cmp {l : List XL} {least : Int} (hr : 1 ≤ r ∧ r ≤ 3) (h0 : 1 ≤ least) : Cmp betC (IsT l r least) ∧ ∀ x y, IsT l r least x → IsT l r least y → betC x y = 0 → x = y := by
 have hn : ∀ x, IsT l r least x → 0 < x.n := fun x ⟨_, _, _, _, _, h⟩ => by omega
 refine ⟨⟨fun x y hx hy => cmp_bet.neg x y (hn x hx) (hn y hy), fun x y z hx hy hz => cmp_bet.tr x y z (hn x hx) (hn y hy) (hn z hz)⟩, fun x y hx hy h => ?_⟩
 obtain ⟨e, _, t, ht, rfl, _⟩ := hx
 obtain ⟨e', _, t', ht', rfl, _⟩ := hy
 rw [tt_inj (cands_ok hr.1 ht) (cands_ok hr.1 ht') (betC_zero h)]
theorem best_eq {l : List XL} {least : Int} (hr : 1 ≤ r ∧ r ≤ 3) (h0 : 1 ≤ least) {m : List Tly} (hm : ∀ x, x ∈ m ↔ IsT l r least x) : (m = [] → bestC l r least = none) ∧ (0 < m.length → bestC l r least = some (minBy betC m)) := by
 have h1 : ∀ x, x ∈ m ↔ x ∈ tallies l r least := fun x => (hm x).trans mem_tallies.symm
 obtain ⟨c1, c2⟩ := isT_cmp (l := l) hr h0
 constructor
 · intro h
   unfold bestC
   rw [if_pos]
   cases h2 : tallies l r least with
   | nil => rfl
   | cons x q => have := (h1 x).2 (by rw [h2]; exact .head _); rw [h] at this; simp at this
 · intro h
   have h3 : tallies l r least ≠ [] := fun e => by
     have := (h1 _).1 (nth_mem h)
     rw [e] at this; simp at this
   unfold bestC
   rw [if_neg h3, minBy_eq c1 c2 (fun x hx => (hm x).1 hx) h h1]
end Go.Proofs.YtkmbliojafefdaaGreatDoor

/- Ranges over functions within a loop: each leaves a mark, and the function's end takes them all. General lemmas, no program text. -/
set_option autoImplicit false
namespace Go.Sx
variable {P : Program} {k : Nat} {ro : Option Nat} {E : Env} {C : World → Prop} {Q : Exit → Act → World → Prop} {w0 : World} {fp : List Nat} {H H' : List Asn} {fn : Func} {R : Ending → World → Prop}
theorem Sel.all : ∀ H : List Asn, Sel H H
 | [] => Sel.nil _
 | _ :: H => Sel.take 0 rfl (Sel.all H)
theorem sat_ung {n : Fr} {d : Nat} {cs : List Bool} {v : Value} {a : Act} (hcs : AllT cs) (h : Sat n ((d, cs, v) :: E) a) : Sat n ((d, [], v) :: E) a := by
 refine ⟨h.defers, h.size, fun t cs' v' ht => ?_⟩
 unfold look at ht
 split at ht
 · rename_i hd
   have h1 := h.has t cs v (by unfold look; rw [hd])
   cases ht
   rw [gval_of hcs] at h1
   exact h1
 · rename_i hd
   exact h.has t cs' v' (by unfold look; rw [hd]; exact ht)
theorem sw_ung {ops : Array Oper} {l : List Oper} {n : Fr} {d : Nat} {cs : List Bool} {v : Value} (hcs : AllT cs) (h : SW P ops Q l n ((d, [], v) :: E) C) : SW P ops Q l n ((d, cs, v) :: E) C := fun a w ha hw => h a w (sat_ung hcs ha) hw
theorem sw_reb0 {ops : Array Oper} {l : List Oper} {n : Fr} {F : List Asn} (hA : ∀ w, C w → Cl w0 fp F w) (h : ∀ w1, Reb w0 fp F w1 [] → SW P ops Q l n E (Cl w1 [] [])) : SW P ops Q l n E C := fun a w ha hw => by
 obtain ⟨h1, h2, h3⟩ := (hA w hw).split0
 exact h w ⟨fun k => h1 _ k, h2, fun hb => (h3 _ _ hb).left⟩ a w ha (Cl.start0 w)
def marksA (bs : List Nat) : List Asn := bs.map fun b => obj b (.deferred (some []))
theorem post_takes {bs : List Nat} (h : Post ⟨k, [], ro⟩ E (Cl w0 fp H) (bodyPostM (Fw none) 0 P fn R) .ret) : Post ⟨k, bs.map mark, ro⟩ E (Cl w0 fp (marksA bs ++ H)) (bodyPostM (Fw none) 0 P fn R) .ret := by
 induction bs with
 | nil => exact h
 | cons b bs ih => exact post_take (i := 0) (b := b) (H := obj b (.deferred (some [])) :: (marksA bs ++ H)) rfl (post_c (fun w hw => hw.tail) ih)
theorem post_takesP {bs : List Nat} (hp : H'.Perm (marksA bs ++ H)) (h : Post ⟨k, [], ro⟩ E (Cl w0 fp H) (bodyPostM (Fw none) 0 P fn R) .ret) : Post ⟨k, bs.map mark, ro⟩ E (Cl w0 fp H') (bodyPostM (Fw none) 0 P fn R) .ret :=
 post_c (fun _ hw => hw.perm hp) (post_takes h)
theorem post_takesA {bs : List Nat} (A : List Asn) (h : Post ⟨k, [], ro⟩ E (Cl w0 fp A) (bodyPostM (Fw none) 0 P fn R) .ret) : Post ⟨k, bs.map mark, ro⟩ E (Cl w0 fp (A ++ marksA bs)) (bodyPostM (Fw none) 0 P fn R) .ret :=
 post_takesP (bs := bs) List.perm_append_comm h
def NextD {S : Type} (k : Nat) (ro : Option Nat) (D : S → List Deferred) (Es : S → Env) (Cs : S → World → Prop) (I : S → Prop) (μ : S → Nat) (s : S) (a : Act) (w : World) : Prop := ∃ s', I s' ∧ μ s' < μ s ∧ Sat ⟨k, D s', ro⟩ (Es s') a ∧ Cs s' w
theorem cw_loopD {S : Type} (D : S → List Deferred) (Es : S → Env) (Cs : S → World → Prop) (I : S → Prop) (μ : S → Nat) (s0 : S) {c : Code} (h0 : I s0) (hE : Le E (Es s0)) (hC : ∀ w, C w → Cs s0 w)
   (body : ∀ s, I s → CW P c (Exit.then (NextD k ro D Es Cs I μ s) Q) ⟨k, D s, ro⟩ (Es s) (Cs s)) : CW P (.loop c) Q ⟨k, D s0, ro⟩ E C := by
 intro a w ha hw
 let p (a : Act) (w : World) (s : S) : Prop := I s ∧ Sat ⟨k, D s, ro⟩ (Es s) a ∧ Cs s w
 let ν (a : Act) (w : World) : Nat := open Classical in if h : ∃ s, p a w s ∧ ∀ s', p a w s' → μ s ≤ μ s' then μ h.choose else 0
 have hν : ∀ a w s, p a w s → ∃ s0, p a w s0 ∧ μ s0 = ν a w ∧ ∀ s', p a w s' → ν a w ≤ μ s' := by
   intro a w s hs
   have hex := least (p a w) μ _ s rfl hs
   have e : ν a w = μ hex.choose := by simp only [ν]; rw [dif_pos hex]
   exact ⟨hex.choose, hex.choose_spec.1, e.symm, fun s' hs' => e ▸ hex.choose_spec.2 s' hs'⟩
 refine wpIn_loop (fun a w => ∃ s, p a w s) ν ⟨s0, h0, ha.le hE, hC w hw⟩ ?_
 rintro a w ⟨s, hs⟩
 obtain ⟨s1, ⟨hI, hSat, hCs⟩, hμ, hmin⟩ := hν a w s hs
 refine wpIn_mono (body s1 hI a w hSat hCs) ?_
 intro e a' w' hq
 cases e with
 | normal =>
   obtain ⟨s', hI', hlt, hS', hC'⟩ := hq
   refine ⟨⟨s', hI', hS', hC'⟩, ?_⟩
   obtain ⟨_, _, _, hmin'⟩ := hν a' w' s' ⟨hI', hS', hC'⟩
   exact Nat.lt_of_le_of_lt (hmin' s' ⟨hI', hS', hC'⟩) (hμ ▸ hlt)
 | exit id => exact hq
 | goto l => exact hq
 | ret => exact hq
 | panic ch => exact hq
 | outgrown => exact hq
theorem post_nextD {S : Type} {D : S → List Deferred} {D' : List Deferred} {Es : S → Env} {Cs : S → World → Prop} {I : S → Prop} {μ : S → Nat} {s : S} (s' : S) (hD : D' = D s') (hE : Le E (Es s')) (hC : ∀ w, C w → Cs s' w) (hI : I s') (hμ : μ s' < μ s) :
   Post ⟨k, D', ro⟩ E C (Exit.then (NextD k ro D Es Cs I μ s) Q) .normal := fun _ w ha hw => ⟨s', hI, hμ, hD ▸ ha.le hE, hC w hw⟩
end Go.Sx
