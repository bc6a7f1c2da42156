import Derived.Test.YtkmbliojafefdaaGreatDoorWB0
import Derived.Lib.Bytealg
import Derived.WalkKit
import Derived.ProofKit
import Derived.OpenShut
import Derived.Carry
import Derived.ChangeOld
import Derived.ChangeSlices
import Derived.Shelf.Strings.OnBuilder
import Derived.Shelf.Small.Strs
import Derived.Shelf.Unicode.ValidAny
import Derived.Test.YtkmbliojafefdaaGreatDoorProg
import Derived.WideKeyRuns
import Derived.ChangeKeysEq

set_option autoImplicit false
set_option linter.unusedSimpArgs false
set_option linter.unusedVariables false
set_option maxRecDepth 100000
namespace Go.Proofs.YtkmbliojafefdaaGreatDoor
open Go.Sx
open Enc (enc val)
theorem indexFunc2_spec (s : ByteArray) (g : FuncId) (cap : Array Value) (p : Int → Bool) (R : World → Prop) (w : World) (hR : Stb w [] R) (hgc : CanCall Tryz.prog g) (hg : PredR Tryz.prog g cap p R) :
   Calls Tryz.prog 144 #[.string s, .func (.func g) #[] cap] w fun e w' => e = .returned (.int .i64 (idxS p (runesP s 0))) ∧ Cl w [] [] w' := by
 refine calls_cw (vs := [_, _]) Tryz.func144 rfl Tryz.ntmps144 rfl (Cl.start0 w) (zr (za rfl (nP (cw_seq (cw_region (zm rfl (zm rfl (sw_step rfl rfl rfl (q_call (CanCall.mk Tryz.call172) rfl (.k rfl (.k rfl (.k rfl (.nil)))) (fun _ w hw => callq hw (indexFunc_spec _ _ _ _ _ w (stb_arg hw hR) hgc hg))) (za rfl (sw_nil (post_then (cw_ret (post_ret1 rfl (resOk_tmp rfl) ?_)))))))))))))
 exact fun w' hw => ⟨rfl, hw⟩
theorem containsFunc_spec (s : ByteArray) (g : FuncId) (cap : Array Value) (p : Int → Bool) (R : World → Prop) (w : World) (hR : Stb w [] R) (hgc : CanCall Tryz.prog g) (hg : PredR Tryz.prog g cap p R) :
   Calls Tryz.prog 108 #[.string s, .func (.func g) #[] cap] w fun e w' => e = .returned (.bool ((runesP s 0).any fun x => p x.2)) ∧ Cl w [] [] w' := by
 refine calls_cw (vs := [_, _]) Tryz.func108 rfl Tryz.ntmps108 rfl (Cl.start0 w) (zr (za rfl (nP (cw_seq (cw_region (zm rfl (zm rfl (sw_step rfl rfl rfl (q_call (CanCall.mk Tryz.call144) rfl (.k rfl (.k rfl (.nil))) (fun _ w hw => callq hw (indexFunc2_spec _ _ _ _ _ w (stb_arg hw hR) hgc hg))) (zS rfl (q_geq rfl rfl rfl) (za rfl (sw_nil (post_then (cw_ret (post_ret1 rfl (resOk_tmp rfl) ?_))))))))))))))
 exact fun w' hw => ⟨by rw [idxS_any], hw⟩
def badC (c : Int) : Bool := decide (c < 33) || decide (126 < c)
theorem bad_spec : PredR Tryz.prog 109 #[] badC (fun _ => True) := by
 intro c w _
 refine calls_cw (vs := [_]) Tryz.func109 rfl Tryz.ntmps109 rfl (Cl.start0 w) (zr (za rfl (nP (cw_seq (cw_region (zm rfl (zS rfl (q_lss rfl rfl rfl) (zm rfl (zm rfl (zS rfl (q_gtr rfl rfl rfl) (zS rfl (q_or2 rfl rfl rfl) (za rfl (sw_nil (post_then (cw_ret (post_ret1 rfl (resOk_tmp rfl) ?_))))))))))))))))
 exact fun w' hw => ⟨by simp [badC], hw⟩
theorem badC_nat (n : Nat) : badC n = badB n := by
 unfold badC badB
 rw [Bool.eq_iff_iff]; simp; omega
theorem runes_bad (s : ByteArray) : ((runesP s 0).any fun x => badC x.2) = (List.range s.size).any fun k => badB (byteAt s k) := by
 rw [← phone_runes]; simp only [badC_nat]
def phonesOk (l : List ByteArray) (most : Int) : Bool := l.all phoneOk && decide ((l.length : Int) ≤ most)
theorem phonesOk_bad {l : List ByteArray} {most : Int} {k : Nat} (hk : k < l.length) (h : phoneOk (nth l k) = false) : phonesOk l most = false := by
 have : l.all phoneOk = false := by
   rw [List.all_eq_false]
   exact ⟨nth l k, by rw [nth_get hk]; exact List.getElem_mem hk, by simp [h]⟩
 simp [phonesOk, this]
theorem phonesOk_end {l : List ByteArray} {most : Int} (h : ∀ j, j < l.length → phoneOk (nth l j) = true) : phonesOk l most = decide ((l.length : Int) ≤ most) := by
 have : l.all phoneOk = true := by
   rw [List.all_eq_true]
   intro x hx
   obtain ⟨i, hi, rfl⟩ := List.getElem_of_mem hx
   rw [← nth_get hi]; exact h i hi
 simp [phonesOk, this]
theorem phones_spec (sv : Value) (l : List ByteArray) (most : Int) (w : World) (hs : Stb w [] (RdL sv l)) : Calls Tryz.prog 63 #[sv, .int .i64 most] w fun e w' => e = .returned (.bool (phonesOk l most)) ∧ Cl w [] [] w' := by
 have hL := rd_len hs.here
 refine calls_cw (vs := [_, _]) Tryz.func63 rfl Tryz.ntmps63 rfl (Cl.start0 w) (zr (za rfl (nP (cw_seq (cw_seq (cw_region (zm rfl ?_)))))))
 refine zS rfl (q_len rfl (.k rfl (.nil)) (stA (by assumption))) ?_
 refine zm rfl (nP (cw_block ?_))
 refine cw_loop (S := Nat) (fun k => [(0, [], sv), (1, [], .int .i64 most), (7, [], sv), (8, [], .int .i64 l.length), (9, [], .int .i64 k)]) (fun _ => Cl w [] []) (fun k => k ≤ l.length ∧ ∀ j, j < k → phoneOk (nth l j) = true) (fun k => l.length - k) 0 ⟨by omega, fun j hj => by omega⟩ (by exact .cons rfl (.cons rfl (.cons rfl (.cons rfl (.cons rfl .nil))))) (fun _ h => h) ?_
 rintro k ⟨hk, hbe⟩
 refine zr (zS rfl (q_lss rfl rfl rfl) (nP (cw_seq ?_)))
 refine cw_cond rfl (fun h => ?_) (fun h => ?_)
 · have hk' : k < l.length := by simp at h; omega
   refine sP (cw_seq (cw_block (zr ?_)))
   refine zS rfl (q_indexN rfl rfl rfl (stA (by assumption)) (by intro hc; omega)) ?_
   refine zS rfl (q_loadEl rfl rfl rfl (stA (by assumption)) (by intro hc; omega)) ?_
   refine za rfl (nP (zr (zm rfl (zS rfl (q_lenS rfl (.k rfl (.nil)) Tryz.underlying9) (zS rfl (q_lss rfl rfl rfl) (zm rfl (zm rfl (zS rfl (q_lenS rfl (.k rfl (.nil)) Tryz.underlying9) (zS rfl (q_gtr rfl rfl rfl) (zS rfl (q_or2 rfl rfl rfl) (zm rfl (zm rfl (sw_step rfl rfl rfl (q_call (CanCall.mk Tryz.call108) rfl (.k rfl (.k rfl (.nil))) (fun _ w hw => callq hw (containsFunc_spec _ _ _ _ _ w (stb_true w []) (CanCall.mk Tryz.call109) bad_spec))) (zS rfl (q_or2 rfl rfl rfl) (sw_nil (post_then ?_))))))))))))))))
   refine cw_cond rfl (fun h2 => ?_) (fun h2 => ?_)
   · have h3 : phoneOk (nth l k) = false := by
       rw [runes_bad] at h2
       cases h5 : phoneOk (nth l k)
       · rfl
       · exfalso
         simp only [phoneOk, Bool.and_eq_true, decide_eq_true_eq, Bool.not_eq_true'] at h5
         rw [h5.2] at h2
         simp at h2; omega
     refine zr (za rfl (nP (cw_ret (post_blk_r (post_then_r (post_then_r (post_blk_r (post_then_r (post_ret1 rfl (resOk_tmp rfl) ?_)))))))))
     exact fun w' hw => ⟨by rw [phonesOk_bad hk' h3], hw⟩
   · have h3 : phoneOk (nth l k) = true := by
       rw [runes_bad] at h2
       simp only [Bool.or_eq_false_iff, decide_eq_false_iff_not] at h2
       simp only [phoneOk, h2.2, Bool.and_eq_true, decide_eq_true_eq, Bool.not_false, and_true]
       omega
     refine cw_skip (post_blk (post_then (cw_region ?_)))
     refine zS rfl (q_add rfl rfl rfl (by intro hc; omega)) ?_
     refine zm rfl (sw_nil ?_)
     refine post_next (k + 1) (by exact .cons rfl (.cons rfl (.cons rfl (.cons rfl (.cons rfl .nil))))) (fun _ h => h) ⟨by omega, fun j hj => ?_⟩ (by omega)
     by_cases hjk : j = k
     · rw [hjk]; exact h3
     · exact hbe j (by omega)
 · have hk' : k = l.length := by simp at h; omega
   subst hk'
   refine cw_exit (post_then_x (post_then_x (post_blk_eq (post_then (zr (zm rfl ?_))))))
   refine zS rfl (q_len rfl (.k rfl (.nil)) (stA (by assumption))) ?_
   refine zm rfl (zS rfl (q_leq rfl rfl rfl) (za rfl (nP (cw_ret (post_ret1 rfl (resOk_tmp rfl) ?_)))))
   exact fun w' hw => ⟨by rw [phonesOk_end hbe], hw⟩
theorem refPhones_spec (sv : Value) (l : List ByteArray) (most : Int) (w : World) (hs : Stb w [] (RdL sv l)) (hz : ∀ b ∈ l, b.size ≤ 9223372036854775807) : Calls Tryz.prog 23 #[sv, .int .i64 most] w fun e w' => e = .returned (.bool (phonesOk l most)) ∧ Cl w [] [] w' := by
 have hL := rd_len hs.here
 refine calls_cw (vs := [_, _]) Tryz.func23 rfl Tryz.ntmps23 rfl (Cl.start0 w) (zr (za rfl (nP (cw_seq (cw_seq (cw_region (za rfl (sw_nil (post_then (cw_block ?_))))))))))
 refine cw_loop (S := Nat) (fun k => [(0, [], sv), (1, [], .int .i64 most), (5, [], .int .i64 k)]) (fun _ => Cl w [] []) (fun k => k ≤ l.length ∧ ∀ j, j < k → phoneOk (nth l j) = true) (fun k => l.length - k) 0 ⟨by omega, fun j hj => by omega⟩ (by exact .cons rfl (.cons rfl (.cons rfl .nil))) (fun _ h => h) ?_
 rintro k ⟨hk, hbe⟩
 refine cw_seq (zr (zm rfl (zm rfl ?_)))
 refine zS rfl (q_len rfl (.k rfl (.nil)) (stA (by assumption))) ?_
 refine zS rfl (q_lss rfl rfl rfl) (nP ?_)
 refine cw_cond rfl (fun h => ?_) (fun h => ?_)
 · have hk' : k < l.length := by simp at h; omega
   have hsz := hz _ (by rw [nth_get hk']; exact List.getElem_mem hk' : nth l k ∈ l)
   refine sP (cw_seq (cw_block (cw_seq (zr (zm rfl (zm rfl ?_))))))
   refine zS rfl (q_indexN rfl rfl rfl (stA (by assumption)) (by intro hc; omega)) ?_
   refine zS rfl (q_loadEl rfl rfl rfl (stA (by assumption)) (by intro hc; omega)) ?_
   refine zS rfl (q_lenS rfl (.k rfl (.nil)) Tryz.underlying9) (zS rfl (q_lss rfl rfl rfl) (zm rfl (zm rfl (zm rfl ?_))))
   refine zS rfl (q_indexN rfl rfl rfl (stA (by assumption)) (by intro hc; omega)) ?_
   refine zS rfl (q_loadEl rfl rfl rfl (stA (by assumption)) (by intro hc; omega)) ?_
   refine zS rfl (q_lenS rfl (.k rfl (.nil)) Tryz.underlying9) (zS rfl (q_gtr rfl rfl rfl) (zS rfl (q_or2 rfl rfl rfl) (nP ?_)))
   refine cw_cond rfl (fun h2 => ?_) (fun h2 => ?_)
   · have h3 : phoneOk (nth l k) = false := by
       cases h5 : phoneOk (nth l k)
       · rfl
       · exfalso
         simp only [phoneOk, Bool.and_eq_true, decide_eq_true_eq, Bool.not_eq_true'] at h5
         simp at h2; omega
     refine zr (za rfl (nP (cw_ret (post_then_r (post_blk_r (post_then_r (post_then_r (post_blk_r (post_then_r (post_ret1 rfl (resOk_tmp rfl) ?_))))))))))
     exact fun w' hw => ⟨by rw [phonesOk_bad hk' h3], hw⟩
   · refine sP (zr (za rfl (nP (cw_block ?_))))
     refine cw_loop (S := Nat) (fun i => [(0, [], sv), (1, [], .int .i64 most), (5, [], .int .i64 k), (6, [], .int .i64 i)]) (fun _ => Cl w [] []) (fun i => i ≤ (nth l k).size ∧ ∀ j, j < i → badB (byteAt (nth l k) j) = false) (fun i => (nth l k).size - i) 0 ⟨by omega, fun j hj => by omega⟩ (by exact .cons rfl (.cons rfl (.cons rfl (.cons rfl .nil)))) (fun _ h => h) ?_
     rintro i ⟨hi, hbi⟩
     refine cw_seq (zr (zm rfl (zm rfl (zm rfl ?_))))
     refine zS rfl (q_indexN rfl rfl rfl (stA (by assumption)) (by intro hc; omega)) ?_
     refine zS rfl (q_loadEl rfl rfl rfl (stA (by assumption)) (by intro hc; omega)) ?_
     refine zS rfl (q_lenS rfl (.k rfl (.nil)) Tryz.underlying9) (zS rfl (q_lss rfl rfl rfl) (nP ?_))
     refine cw_cond rfl (fun h4 => ?_) (fun h4 => ?_)
     · have hi' : i < (nth l k).size := by simp at h4; omega
       refine sP (cw_seq (cw_block (zr (zm rfl (zm rfl ?_)))))
       refine zS rfl (q_indexN rfl rfl rfl (stA (by assumption)) (by intro hc; omega)) ?_
       refine zS rfl (q_loadEl rfl rfl rfl (stA (by assumption)) (by intro hc; omega)) ?_
       refine zm rfl ?_
       refine zS rfl (q_indexS rfl rfl rfl Tryz.underlying9 (by intro hc; omega)) ?_
       refine zS rfl (q_lss rfl rfl rfl) (zm rfl (zm rfl (zm rfl ?_)))
       refine zS rfl (q_indexN rfl rfl rfl (stA (by assumption)) (by intro hc; omega)) ?_
       refine zS rfl (q_loadEl rfl rfl rfl (stA (by assumption)) (by intro hc; omega)) ?_
       refine zm rfl ?_
       refine zS rfl (q_indexS rfl rfl rfl Tryz.underlying9 (by intro hc; omega)) ?_
       refine zS rfl (q_gtr rfl rfl rfl) (zS rfl (q_or2 rfl rfl rfl) (nP ?_))
       refine cw_cond rfl (fun h5 => ?_) (fun h5 => ?_)
       · have h3 : phoneOk (nth l k) = false := by
           have h6 : (List.range (nth l k).size).any (fun j => badB (byteAt (nth l k) j)) = true := List.any_eq_true.2 ⟨i, List.mem_range.2 hi', by simp at h5; simp [badB]; omega⟩
           simp [phoneOk, h6]
         refine zr (za rfl (nP (cw_ret (post_blk_r (post_then_r (post_then_r (post_blk_r (post_blk_r (post_then_r (post_then_r (post_blk_r (post_then_r (post_ret1 rfl (resOk_tmp rfl) ?_)))))))))))))
         exact fun w' hw => ⟨by rw [phonesOk_bad hk' h3], hw⟩
       · refine cw_skip (post_blk (post_then (cw_region (zm rfl ?_))))
         refine zS rfl (q_add rfl rfl rfl (by intro hc; omega)) ?_
         refine za rfl (sw_nil ?_)
         refine post_next (i + 1) (by exact .cons rfl (.cons rfl (.cons rfl (.cons rfl .nil)))) (fun _ h => h) ⟨by omega, fun j hj => ?_⟩ (by omega)
         by_cases hjk : j = i
         · rw [hjk]; simp at h5; simp [badB]; omega
         · exact hbi j (by omega)
     · have hi' : i = (nth l k).size := by simp at h4; omega
       have h3 : phoneOk (nth l k) = true := by
         have h6 : (List.range (nth l k).size).any (fun j => badB (byteAt (nth l k) j)) = false := by
           rw [List.any_eq_false]
           intro j hj
           rw [List.mem_range] at hj
           rw [hbi j (by omega)]; decide
         simp at h2
         simp [phoneOk, h6]; omega
       refine cw_exit (post_then_x (post_then_x (post_blk_eq (post_blk (post_then (cw_region (zm rfl ?_)))))))
       refine zS rfl (q_add rfl rfl rfl (by intro hc; omega)) ?_
       refine za rfl (sw_nil ?_)
       refine post_next (k + 1) (by exact .cons rfl (.cons rfl (.cons rfl .nil))) (fun _ h => h) ⟨by omega, fun j hj => ?_⟩ (by omega)
       by_cases hjk : j = k
       · rw [hjk]; exact h3
       · exact hbe j (by omega)
 · have hk' : k = l.length := by simp at h; omega
   subst hk'
   refine cw_exit (post_then_x (post_then_x (post_blk_eq (post_then (zr (zm rfl ?_))))))
   refine zS rfl (q_len rfl (.k rfl (.nil)) (stA (by assumption))) ?_
   refine zm rfl (zS rfl (q_leq rfl rfl rfl) (za rfl (nP (cw_ret (post_ret1 rfl (resOk_tmp rfl) ?_)))))
   exact fun w' hw => ⟨by rw [phonesOk_end hbe], hw⟩
def lawPh (l : List ByteArray) (most : Int) : Bool := decide ((l.length : Int) ≤ most) && l.all fun b => decide (b.size ≤ 12)
theorem lawPhones_spec (sv : Value) (l : List ByteArray) (most : Int) (h0 : 0 ≤ most ∧ most ≤ 1000) (w : World) (hs : Stb w [] (RdL sv l)) : Calls Tryz.prog 18 #[sv, .int .i64 most] w fun e w' => e = .returned (.bool (lawPh l most)) ∧ Cl w [] [] w' := by
 have hL := rd_len hs.here
 refine calls_cw (vs := [_, _]) Tryz.func18 rfl Tryz.ntmps18 rfl (Cl.start0 w) (zr (za rfl (nP (cw_seq (cw_seq (cw_region (za rfl (sw_nil (post_then (cw_block ?_))))))))))
 refine cw_loop (S := Nat) (fun k => [(0, [], sv), (1, [], .int .i64 most), (5, [], .int .i64 k)]) (fun _ => Cl w [] []) (fun k => k ≤ l.length ∧ k ≤ most + 1 ∧ ∀ j, j < k → (nth l j).size ≤ 12) (fun k => l.length - k) 0 ⟨by omega, by omega, fun j hj => by omega⟩ (by exact .cons rfl (.cons rfl (.cons rfl .nil))) (fun _ h => h) ?_
 rintro k ⟨hk, hkm, hbe⟩
 refine cw_seq (zr (zm rfl (zm rfl ?_)))
 refine zS rfl (q_len rfl (.k rfl (.nil)) (stA (by assumption))) ?_
 refine zS rfl (q_lss rfl rfl rfl) (zm rfl (zm rfl (zm rfl (zS rfl (q_leq rfl rfl rfl) (zS rfl (q_and2 rfl rfl rfl) (nP ?_))))))
 refine cw_cond rfl (fun h => ?_) (fun h => ?_)
 · have hk' : k < l.length ∧ k ≤ most := by simp at h; omega
   refine sP (cw_seq (cw_block (zr (zm rfl (zm rfl ?_)))))
   refine zS rfl (q_indexN rfl rfl rfl (stA (by assumption)) (by intro hc; omega)) ?_
   refine zS rfl (q_loadEl rfl rfl rfl (stA (by assumption)) (by intro hc; omega)) ?_
   refine zS rfl (q_lenS rfl (.k rfl (.nil)) Tryz.underlying9) (zS rfl (q_gtr rfl rfl rfl) (nP ?_))
   refine cw_cond rfl (fun h2 => ?_) (fun h2 => ?_)
   · have h3 : lawPh l most = false := by
       have : (l.all fun b => decide (b.size ≤ 12)) = false := by
         rw [List.all_eq_false]
         exact ⟨nth l k, by rw [nth_get hk'.1]; exact List.getElem_mem hk'.1, by simp at h2 ⊢; omega⟩
       simp [lawPh, this]
     refine zr (za rfl (nP (cw_ret (post_blk_r (post_then_r (post_then_r (post_blk_r (post_then_r (post_ret1 rfl (resOk_tmp rfl) ?_)))))))))
     exact fun w' hw => ⟨by rw [h3], hw⟩
   · refine cw_skip (post_blk (post_then (cw_region (zm rfl ?_))))
     refine zS rfl (q_add rfl rfl rfl (by intro hc; omega)) ?_
     refine za rfl (sw_nil ?_)
     refine post_next (k + 1) (by exact .cons rfl (.cons rfl (.cons rfl .nil))) (fun _ h => h) ⟨by omega, by omega, fun j hj => ?_⟩ (by omega)
     by_cases hjk : j = k
     · rw [hjk]; simp at h2; omega
     · exact hbe j (by omega)
 · have h3 : lawPh l most = decide ((l.length : Int) ≤ most) := by
     unfold lawPh
     by_cases h4 : (l.length : Int) ≤ most
     · have h5 : k = l.length := by simp at h; omega
       have : (l.all fun b => decide (b.size ≤ 12)) = true := by
         rw [List.all_eq_true]
         intro x hx
         obtain ⟨i, hi, rfl⟩ := List.getElem_of_mem hx
         rw [← nth_get hi]; simpa using hbe i (by omega)
       simp [this]
     · simp [h4]
   refine cw_exit (post_then_x (post_then_x (post_blk_eq (post_then (zr (zm rfl ?_))))))
   refine zS rfl (q_len rfl (.k rfl (.nil)) (stA (by assumption))) ?_
   refine zm rfl (zS rfl (q_leq rfl rfl rfl) (za rfl (nP (cw_ret (post_ret1 rfl (resOk_tmp rfl) ?_)))))
   exact fun w' hw => ⟨by rw [h3], hw⟩
end Go.Proofs.YtkmbliojafefdaaGreatDoor

/- Strings in order. Plain. -/
set_option autoImplicit false
namespace Go.Sx
theorem ba_toList (a : ByteArray) : a.toList = a.data.toList := by
 have hsz : a.data.toList.length = a.size := Array.length_toList
 have key : ∀ (n i : Nat) (r : List UInt8), a.size - i = n → ByteArray.toList.loop a i r = r.reverse ++ a.data.toList.drop i := by
   intro n
   induction n with
   | zero =>
     intro i r h
     unfold ByteArray.toList.loop
     have h1 : ¬ i < a.size := by omega
     have h2 : a.data.toList.length ≤ i := by omega
     rw [if_neg h1, List.drop_eq_nil_of_le h2]; simp
   | succ n ih =>
     intro i r h
     unfold ByteArray.toList.loop
     have h1 : i < a.size := by omega
     have h3 : i < a.data.toList.length := by omega
     rw [if_pos h1, ih (i + 1) _ (by omega), List.drop_eq_getElem_cons h3]
     have : a.get! i = a.data.toList[i] := by
       show a.data[i]! = _
       rw [getElem!_pos a.data i (by simpa using h3)]; simp
     simp [this]
 have := key a.size 0 [] (by omega)
 simpa [ByteArray.toList] using this
def cmpS (a b : ByteArray) : Int := if a = b then 0 else if sLt a b then -1 else 1
theorem bl_cmp : ∀ a b : List UInt8, Lib.compareBytes a b = if a = b then 0 else if Op.bytesLess a b then -1 else 1
 | [], [] => by simp [Lib.compareBytes]
 | [], _ :: _ => by simp [Lib.compareBytes, Op.bytesLess]
 | _ :: _, [] => by simp [Lib.compareBytes, Op.bytesLess]
 | a :: x, b :: y => by
   have ih := bl_cmp x y
   by_cases h : a = b
   · subst h
     simp only [Lib.compareBytes, UInt8.lt_irrefl, if_false, ih, Op.bytesLess, List.cons.injEq, true_and]
     simp
   · by_cases h2 : a < b
     · simp [Lib.compareBytes, h, h2, Op.bytesLess]
     · have h3 : b < a := by
         rcases UInt8.lt_or_lt_of_ne h with h4 | h4
         · exact absurd h4 h2
         · exact h4
       simp [Lib.compareBytes, h, h2, h3, Op.bytesLess]
theorem cmpS_eq (a b : ByteArray) : Lib.compareBytes a.data.toList b.data.toList = cmpS a b := by
 rw [bl_cmp]
 unfold cmpS sLt
 rw [ba_toList, ba_toList]
 have : (a.data.toList = b.data.toList) ↔ a = b := ⟨fun h => str_inj (by rw [ba_toList, ba_toList, h]), fun h => by rw [h]⟩
 simp only [this]
theorem bl_trans : ∀ {a b c : List UInt8}, Op.bytesLess a b = true → Op.bytesLess b c = true → Op.bytesLess a c = true
 | _, [], _, h, _ => by simp [Op.bytesLess] at h
 | _, _ :: _, [], _, h => by simp [Op.bytesLess] at h
 | [], _ :: _, _ :: _, _, _ => by simp [Op.bytesLess]
 | a :: x, b :: y, c :: z, h1, h2 => by
   simp only [Op.bytesLess, Bool.or_eq_true, decide_eq_true_eq, Bool.and_eq_true, beq_iff_eq] at h1 h2 ⊢
   rcases h1 with h1 | ⟨rfl, h1⟩
   · rcases h2 with h2 | ⟨rfl, h2⟩
     · exact .inl (UInt8.lt_trans h1 h2)
     · exact .inl h1
   · rcases h2 with h2 | ⟨rfl, h2⟩
     · exact .inl h2
     · exact .inr ⟨rfl, bl_trans h1 h2⟩
theorem bl_tri : ∀ a b : List UInt8, Op.bytesLess a b = true ∨ a = b ∨ Op.bytesLess b a = true
 | [], [] => .inr (.inl rfl)
 | [], _ :: _ => .inl rfl
 | _ :: _, [] => .inr (.inr rfl)
 | a :: x, b :: y => by
   simp only [Op.bytesLess, Bool.or_eq_true, decide_eq_true_eq, Bool.and_eq_true, beq_iff_eq, List.cons.injEq]
   by_cases h : a = b
   · subst h
     rcases bl_tri x y with h | h | h
     · exact .inl (.inr ⟨rfl, h⟩)
     · exact .inr (.inl ⟨rfl, h⟩)
     · exact .inr (.inr (.inr ⟨rfl, h⟩))
   · rcases UInt8.lt_or_lt_of_ne h with h2 | h2
     · exact .inl (.inl h2)
     · exact .inr (.inr (.inl h2))
theorem sLt_trans {a b c : ByteArray} (h1 : sLt a b = true) (h2 : sLt b c = true) : sLt a c = true := bl_trans h1 h2
theorem sLt_tri (a b : ByteArray) : sLt a b = true ∨ a = b ∨ sLt b a = true := by
 rcases bl_tri a.toList b.toList with h | h | h
 · exact .inl h
 · exact .inr (.inl (str_inj h))
 · exact .inr (.inr h)
end Go.Sx

set_option autoImplicit false
set_option maxRecDepth 100000
namespace Go.Proofs.YtkmbliojafefdaaGreatDoor
open Go.Sx
open Enc (enc val)
theorem isNaNR_spec (x : Int) (w : World) : Calls Tryz.prog 121 #[.int .i32 x] w fun e w' => e = .returned (.bool false) ∧ Cl w [] [] w' := by
 refine calls_cw (vs := [_]) Tryz.func121 rfl Tryz.ntmps121 rfl (Cl.start0 w) (zr (za rfl (nP (cw_seq (cw_region (zm rfl (zm rfl (zS rfl (q_neq rfl rfl rfl) (za rfl (sw_nil (post_then (cw_ret (post_ret1 rfl (resOk_tmp rfl) ?_)))))))))))))
 refine fun w' hw => ⟨by simp, hw⟩
theorem isNaNI_spec (x : Int) (w : World) : Calls Tryz.prog 211 #[.int .i64 x] w fun e w' => e = .returned (.bool false) ∧ Cl w [] [] w' := by
 refine calls_cw (vs := [_]) Tryz.func211 rfl Tryz.ntmps211 rfl (Cl.start0 w) (zr (za rfl (nP (cw_seq (cw_region (zm rfl (zm rfl (zS rfl (q_neq rfl rfl rfl) (za rfl (sw_nil (post_then (cw_ret (post_ret1 rfl (resOk_tmp rfl) ?_)))))))))))))
 refine fun w' hw => ⟨by simp, hw⟩
theorem isNaNS_spec (x : ByteArray) (w : World) : Calls Tryz.prog 193 #[.string x] w fun e w' => e = .returned (.bool false) ∧ Cl w [] [] w' := by
 refine calls_cw (vs := [_]) Tryz.func193 rfl Tryz.ntmps193 rfl (Cl.start0 w) (zr (za rfl (nP (cw_seq (cw_region (zm rfl (zm rfl (zS rfl (q_neqStr rfl rfl rfl Tryz.underlying9) (za rfl (sw_nil (post_then (cw_ret (post_ret1 rfl (resOk_tmp rfl) ?_)))))))))))))
 refine fun w' hw => ⟨by simp, hw⟩
theorem sgn_lt {x y : Int} (h : x < y) : sgn (x - y) = -1 := by unfold sgn; rw [if_pos (by omega)]
theorem sgn_gt {x y : Int} (h : y < x) : sgn (x - y) = 1 := by unfold sgn; rw [if_neg (by omega), if_pos (by omega)]
theorem sgn_eq {x y : Int} (h : ¬ x < y) (h2 : ¬ y < x) : sgn (x - y) = 0 := by unfold sgn; rw [if_neg (by omega), if_neg (by omega)]
theorem cmpS_lt {x y : ByteArray} (h : sLt x y = true) : cmpS x y = -1 := by unfold cmpS; rw [if_neg (fun e => by rw [e, sLt_irr] at h; cases h), if_pos h]
theorem cmpS_self (x : ByteArray) : cmpS x x = 0 := by unfold cmpS; rw [if_pos rfl]
theorem cmpS_gt2 {x y : ByteArray} (h2 : (!(sLt x y || decide (x = y))) = true) : cmpS x y = 1 := by
 simp at h2
 unfold cmpS; rw [if_neg h2.2, if_neg (by simp [h2.1])]
theorem cmpS_no2 {x y : ByteArray} (h : sLt x y = false) (h2 : (!(sLt x y || decide (x = y))) = false) : cmpS x y = 0 := by
 simp [h] at h2; rw [h2, cmpS_self]
theorem compareR_spec (x y : Int) (w : World) : Calls Tryz.prog 75 #[.int .i32 x, .int .i32 y] w fun e w' => e = .returned (.int .i64 (sgn (x - y))) ∧ Cl w [] [] w' := by
 refine calls_cw (vs := [_, _]) Tryz.func75 rfl Tryz.ntmps75 rfl (Cl.start0 w) (zr (za rfl (nP (cw_seq (cw_region (zm rfl (sw_step rfl rfl rfl (q_call (CanCall.mk Tryz.call121) rfl (.k rfl (.nil)) (fun _ w hw => callq hw (isNaNR_spec _ w))) (za rfl (sw_nil (post_then (cw_seq (cw_region (zm rfl (sw_step rfl rfl rfl (q_call (CanCall.mk Tryz.call121) rfl (.k rfl (.nil)) (fun _ w hw => callq hw (isNaNR_spec _ w))) (za rfl (sw_nil (post_then (cw_seq (cw_seq (cw_region (zm rfl (sw_nil (post_then ?_)))))))))))))))))))))))
 refine cw_cond rfl (fun h0 => ?_) (fun h0 => ?_)
 · exact absurd h0 (by decide)
 · refine sP (cw_seq (zr (zm rfl (nP ?_))))
   refine cw_cond rfl (fun h1 => ?_) (fun h1 => ?_)
   · exact absurd h1 (by decide)
   · refine sP (cw_seq (zr (zm rfl (zm rfl (zS rfl (q_lss rfl rfl rfl) (nP ?_))))))
     refine cw_cond rfl (fun h => ?_) (fun h => ?_)
     · have e : sgn (x - y) = -1 := by exact sgn_lt (by simpa using h)
       refine zr (za rfl (nP (cw_ret (post_then_r (post_ret1 rfl (resOk_tmp rfl) ?_)))))
       refine fun w' hw => ⟨by rw [e], hw⟩
     · refine sP (cw_seq (zr (zm rfl (zm rfl (zS rfl (q_gtr rfl rfl rfl) (nP ?_))))))
       refine cw_cond rfl (fun h2 => ?_) (fun h2 => ?_)
       · have e : sgn (x - y) = 1 := by exact sgn_gt (by simpa using h2)
         refine zr (za rfl (nP (cw_ret (post_then_r (post_ret1 rfl (resOk_tmp rfl) ?_)))))
         refine fun w' hw => ⟨by rw [e], hw⟩
       · have e : sgn (x - y) = 0 := by exact sgn_eq (by simpa using h) (by simpa using h2)
         refine sP (zr (za rfl (nP (cw_ret (post_ret1 rfl (resOk_tmp rfl) ?_)))))
         refine fun w' hw => ⟨by rw [e], hw⟩
theorem compareI_spec (x y : Int) (w : World) : Calls Tryz.prog 203 #[.int .i64 x, .int .i64 y] w fun e w' => e = .returned (.int .i64 (sgn (x - y))) ∧ Cl w [] [] w' := by
 refine calls_cw (vs := [_, _]) Tryz.func203 rfl Tryz.ntmps203 rfl (Cl.start0 w) (zr (za rfl (nP (cw_seq (cw_region (zm rfl (sw_step rfl rfl rfl (q_call (CanCall.mk Tryz.call211) rfl (.k rfl (.nil)) (fun _ w hw => callq hw (isNaNI_spec _ w))) (za rfl (sw_nil (post_then (cw_seq (cw_region (zm rfl (sw_step rfl rfl rfl (q_call (CanCall.mk Tryz.call211) rfl (.k rfl (.nil)) (fun _ w hw => callq hw (isNaNI_spec _ w))) (za rfl (sw_nil (post_then (cw_seq (cw_seq (cw_region (zm rfl (sw_nil (post_then ?_)))))))))))))))))))))))
 refine cw_cond rfl (fun h0 => ?_) (fun h0 => ?_)
 · exact absurd h0 (by decide)
 · refine sP (cw_seq (zr (zm rfl (nP ?_))))
   refine cw_cond rfl (fun h1 => ?_) (fun h1 => ?_)
   · exact absurd h1 (by decide)
   · refine sP (cw_seq (zr (zm rfl (zm rfl (zS rfl (q_lss rfl rfl rfl) (nP ?_))))))
     refine cw_cond rfl (fun h => ?_) (fun h => ?_)
     · have e : sgn (x - y) = -1 := by exact sgn_lt (by simpa using h)
       refine zr (za rfl (nP (cw_ret (post_then_r (post_ret1 rfl (resOk_tmp rfl) ?_)))))
       refine fun w' hw => ⟨by rw [e], hw⟩
     · refine sP (cw_seq (zr (zm rfl (zm rfl (zS rfl (q_gtr rfl rfl rfl) (nP ?_))))))
       refine cw_cond rfl (fun h2 => ?_) (fun h2 => ?_)
       · have e : sgn (x - y) = 1 := by exact sgn_gt (by simpa using h2)
         refine zr (za rfl (nP (cw_ret (post_then_r (post_ret1 rfl (resOk_tmp rfl) ?_)))))
         refine fun w' hw => ⟨by rw [e], hw⟩
       · have e : sgn (x - y) = 0 := by exact sgn_eq (by simpa using h) (by simpa using h2)
         refine sP (zr (za rfl (nP (cw_ret (post_ret1 rfl (resOk_tmp rfl) ?_)))))
         refine fun w' hw => ⟨by rw [e], hw⟩
theorem compareS_spec (x y : ByteArray) (w : World) : Calls Tryz.prog 171 #[.string x, .string y] w fun e w' => e = .returned (.int .i64 (cmpS x y)) ∧ Cl w [] [] w' := by
 refine calls_cw (vs := [_, _]) Tryz.func171 rfl Tryz.ntmps171 rfl (Cl.start0 w) (zr (za rfl (nP (cw_seq (cw_region (zm rfl (sw_step rfl rfl rfl (q_call (CanCall.mk Tryz.call193) rfl (.k rfl (.nil)) (fun _ w hw => callq hw (isNaNS_spec _ w))) (za rfl (sw_nil (post_then (cw_seq (cw_region (zm rfl (sw_step rfl rfl rfl (q_call (CanCall.mk Tryz.call193) rfl (.k rfl (.nil)) (fun _ w hw => callq hw (isNaNS_spec _ w))) (za rfl (sw_nil (post_then (cw_seq (cw_seq (cw_region (zm rfl (sw_nil (post_then ?_)))))))))))))))))))))))
 refine cw_cond rfl (fun h0 => ?_) (fun h0 => ?_)
 · exact absurd h0 (by decide)
 · refine sP (cw_seq (zr (zm rfl (nP ?_))))
   refine cw_cond rfl (fun h1 => ?_) (fun h1 => ?_)
   · exact absurd h1 (by decide)
   · refine sP (cw_seq (zr (zm rfl (zm rfl (zS rfl (q_lssStr rfl rfl rfl Tryz.underlying9) (nP ?_))))))
     refine cw_cond rfl (fun h => ?_) (fun h => ?_)
     · have e : cmpS x y = -1 := by exact cmpS_lt h
       refine zr (za rfl (nP (cw_ret (post_then_r (post_ret1 rfl (resOk_tmp rfl) ?_)))))
       refine fun w' hw => ⟨by rw [e], hw⟩
     · refine sP (cw_seq (zr (zm rfl (zm rfl (zS rfl (q_gtrStr rfl rfl rfl Tryz.underlying9) (nP ?_))))))
       refine cw_cond rfl (fun h2 => ?_) (fun h2 => ?_)
       · have e : cmpS x y = 1 := by exact cmpS_gt2 h2
         refine zr (za rfl (nP (cw_ret (post_then_r (post_ret1 rfl (resOk_tmp rfl) ?_)))))
         refine fun w' hw => ⟨by rw [e], hw⟩
       · have e : cmpS x y = 0 := by exact cmpS_no2 h h2
         refine sP (zr (za rfl (nP (cw_ret (post_ret1 rfl (resOk_tmp rfl) ?_)))))
         refine fun w' hw => ⟨by rw [e], hw⟩
end Go.Proofs.YtkmbliojafefdaaGreatDoor

/- Two effects that may come in either order; a cut of a slice by its length alone. -/
set_option autoImplicit false
namespace Go.Sx
open Go
variable {P : Program} {ops : Array Oper} {C : World → Prop} {n : Fr} {E : Env} {Q : Exit → Act → World → Prop} {cs : List Bool} {o : Oper}
def AWat (P : Program) (ops : Array Oper) (Q : Exit → Act → World → Prop) (S : World → Prop) (m : List Nat) (f : Nat) (listed : Array Bool) (i : Nat) (n : Fr) (E : Env) (C : World → Prop) : Prop :=
 ∀ a w, Sat n E a → C w → wpOp P ops Q i (fun a' w' => (m.contains i = false → S w → S w') ∧ AnyS P ops Q S m f (listed.setIfInBounds i true) a' w') a w
theorem aw_two {S : World → Prop} {m : List Nat} {f : Nat} {listed : Array Bool} (i j : Nat) (hr : Region.ready .any ops listed = [i, j]) (h1 : AWat P ops Q S m f listed i n E C) (h2 : AWat P ops Q S m f listed j n E C) : AW P ops Q S m (f + 1) listed n E C := by
 intro a w ha hw
 refine ⟨fun h0 => (by rw [hr] at h0; cases h0), fun k hk => ?_⟩
 rw [hr] at hk
 simp only [List.mem_cons, List.not_mem_nil, or_false] at hk
 rcases hk with rfl | rfl
 · exact h1 a w ha hw
 · exact h2 a w ha hw
theorem at_one {S : World → Prop} {m : List Nat} {f : Nat} {listed : Array Bool} (i : Nat) {o : Oper} {d : Nat} {R : Value → World → Prop} (hi : ops[i]? = some o) (hg : o.guard = none) (hd : o.dst = some d) (hn : Nat.ble (d + 1) n.sz = true)
   (hop : OpE P n E C o R) (hS : m.contains i = false → ∀ v w, R v w → S w) (h : ∀ v, AW P ops Q S m f (listed.setIfInBounds i true) n ((d, [], v) :: E) (R v)) : AWat P ops Q S m f listed i n E C := by
 intro a w ha hw
 unfold wpOp
 simp only [hi]
 rw [if_pos (by simp [Region.wanted, hg])]
 refine .inl ((hop a w ha hw).wp fun v w' hR => ⟨fun him _ => hS him v w' hR, ?_⟩)
 have := h v _ w' (ha.put (cs := []) (v := v) (Nat.le_of_ble_eq_true hn)) hR
 rw [hd]; exact this
theorem at_x {S : World → Prop} {m : List Nat} {f : Nat} {listed : Array Bool} {α : Type} {vf : α → Value} {C' : α → World → Prop} (i : Nat) {o : Oper} {d : Nat} (hi : ops[i]? = some o) (hg : o.guard = none) (hd : o.dst = some d) (hn : Nat.ble (d + 1) n.sz = true)
   (hop : OpE P n E C o (fun v w' => ∃ x, v = vf x ∧ C' x w')) (hS : m.contains i = false → ∀ x w, C' x w → S w) (h : ∀ x, AW P ops Q S m f (listed.setIfInBounds i true) n ((d, [], vf x) :: E) (C' x)) : AWat P ops Q S m f listed i n E C :=
 at_one i hi hg hd hn hop (fun hb v w ⟨x, _, hx⟩ => hS hb x w hx) fun _ => aw_ex fun x => aw_imp fun hv => by subst hv; exact h x
theorem q_slicePH {t e : TypeId} {sz : Nat} {x z : Operand} {cx cz : List Bool} {s : SlV} {m : Nat} {b : Int} (ho : o.op = .slice t x none (some z) none) (hx : evl E x = some (cx, s.v)) (hz : evl E z = some (cz, .int .i64 b))
   [sx : Sub cx cs] [sz' : Sub cz cs] [ht : SlT P t e] [hs : SzT P e sz] (hl : s.len = m ∧ s.len ≤ s.cap ∧ s.cap ≤ maxLen) (h : AllT cs → 0 ≤ b ∧ b ≤ m) : OpR P n E C cs o (s.sub sz 0 b.toNat).v :=
 .of_run fun e he hc w hw => by
   obtain ⟨h1, h3⟩ := h hc
   obtain ⟨l1, l2, l3⟩ := hl
   unfold execOp; simp only [ho]
   have e1 := he.eval hx sx hc
   have e3 := he.eval hz sz' hc
   have := run_slice_of (P := P) (t := t) (s := s) (w := w) (a := 0) (b := b.toNat) (lo := none) (hi := some (.int .i64 b)) (by
     have f1 := run_sliceBound (P := P) (w := w) .i64 b s.cap .sliceAcap (by omega) (by omega)
     simp [Instr.sliceBounds, f1, Result.andThen])
   simp [e1, e3, this, Result.andThen]
end Go.Sx

/-
 Rows of laws for the layer of symbolic frames: what was handed in reads the same behind a call that left memory alone, whatever its shape; slices of integers laid open as lists. General lemmas, no program text.
-/
set_option autoImplicit false
set_option linter.unusedSectionVars false
namespace Go.Sx
open Go.ChangeShapes Go.WideShapes Go.ChangeAt Go.RowKit Go.WideElems
theorem trodAll_keep {H : Type} {enc : TypeId × Value → H} {P : Program} (hl : laidOutB P = true) {W W' : World} (hb : Below W.heap.size W W') (sp : Nat → Bool) :
   ∀ {ts : List TypeId} {vs : List Value} {ds : List (DataW H)} {ps : List MemPlace}, (∀ t ∈ ts, P.readableRec t = true ∧ t < P.types.size) → DataW.TrodAll enc P W 0 (fun _ => true) true ts vs ds ps →
     (∀ x ∈ ps, x.block < W.heap.size) → (∀ x ∈ ps, sp x.block = true) → DataW.TrodAll enc P W' 0 sp true ts vs ds ps
 | [], [], [], _, _, h, _, _ => h
 | t :: ts, v :: vs, d :: ds, ps, ht, ⟨p, q, ⟨n, h1⟩, h2, e⟩, hlt, hsp => by
   have ht0 := ht t (by simp)
   have hp : ∀ x ∈ p, x.block < W.heap.size := fun x hx => hlt x (by rw [e]; simp [hx])
   have hq : ∀ x ∈ q, x.block < W.heap.size := fun x hx => hlt x (by rw [e]; simp [hx])
   exact ⟨p, q, ⟨n, DataW.trod_stays (kids_book hl ht0.1) (book_sized ht0.1) (fun h => by cases h) ⟨ht0.2, book_self t⟩ h1 (fun x hx => hb.same (hp x hx)) (fun x hx => hsp x (by rw [e]; simp [hx]))⟩,
     trodAll_keep hl hb sp (fun t ht' => ht t (by simp [ht'])) h2 hq (fun x hx => hsp x (by rw [e]; simp [hx])), e⟩
theorem cell_lt {w : World} {a : Addr} {v : Value} (h : w.cell? a = some v) : a.block < w.heap.size := by
 cases hh : w.heap[a.block]? with
 | none => unfold World.cell? at h; simp [hh] at h
 | some o => exact (Array.getElem?_eq_some_iff.1 hh).1
theorem rd_stb {α : Type} [Enc α] {sv : Value} {l : List α} {w : World} (h : RdL sv l w) : Stb w [] (RdL sv l) := by
 obtain ⟨a, n, cap, h1, h2, h3, h4, h5⟩ := h
 refine ⟨fun w' k => ⟨a, n, cap, h1, h2, h3, h4, fun i x j v hx hv => ?_⟩⟩
 obtain ⟨b, hb, hc⟩ := h5 i x j v hx hv
 refine ⟨b, hb, ?_⟩
 rw [World.cell?_of_block (w := w) (k.block _ (cell_lt hc) (by simp)), hc]
theorem below_of {w w' : World} {H : List Asn} (h : Cl w [] H w') : RowKit.Below w.heap.size w w' := h.chg.below
end Go.Sx

/- Frozen knowledge; a class told from a later world on. General lemmas, no program text. -/
set_option autoImplicit false
namespace Go.Sx
def frz (R : World → Prop) : Asn := ⟨fun w bs => ∀ w', (∀ b ∈ bs, w'.heap[b]? = w.heap[b]?) → R w', fun _ _ _ h hk w'' h2 => h w'' (fun b hb => (h2 b hb).trans (hk b hb))⟩
theorem frz_here {R : World → Prop} {w : World} {bs : List Nat} (h : (frz R).holds w bs) : R w := h w fun _ _ => rfl
variable {w0 : World} {fp : List Nat}
theorem Cl.frz {H F : List Asn} {R : World → Prop} {w : World} (h : Cl w0 fp (H ++ F) w) (hR : ∀ w bs, Sep H w bs → R w) : Cl w0 fp (Sx.frz R :: F) w := by
 obtain ⟨hc, bs, hs, hn, hb⟩ := h
 obtain ⟨b1, b2, rfl, h1, h2⟩ := Sep.append.1 hs
 exact ⟨hc, b1 ++ b2, ⟨b1, b2, rfl, fun w' hk => hR w' b1 (h1.loc hk), h2⟩, hn, hb⟩
theorem Cl.frzL {α : Type} [Enc α] {e : TypeId} {sv : Value} {l : List α} {F : List Asn} {w : World} (h : Cl w0 fp (ownL e sv l :: F) w) : Cl w0 fp (Sx.frz (RdL sv l) :: F) w :=
 Cl.frz (H := [ownL e sv l]) h fun w bs ⟨b1, _, _, h1, _⟩ => ownL.rd h1
theorem Cl.frz2 {R R' : World → Prop} {F : List Asn} {w : World} (h : Cl w0 fp (Sx.frz R :: Sx.frz R' :: F) w) : Cl w0 fp (Sx.frz (fun w => R w ∧ R' w) :: F) w :=
 Cl.frz (H := [Sx.frz R, Sx.frz R']) h fun w bs ⟨b1, _, _, h1, b2, _, _, h2, _⟩ => ⟨frz_here h1, frz_here h2⟩
theorem Cl.frzM {R R' : World → Prop} {F : List Asn} {w : World} (h : Cl w0 fp (Sx.frz R :: F) w) (hR : ∀ w, R w → R' w) : Cl w0 fp (Sx.frz R' :: F) w :=
 Cl.frz (H := [Sx.frz R]) h fun w bs ⟨b1, _, _, h1, _⟩ => hR _ (frz_here h1)
theorem rd_frz {H : List Asn} {R : World → Prop} {w : World} (h : Cl w0 fp H w) (hm : Sx.frz R ∈ H) : R w := by
 obtain ⟨bs, k⟩ := h.get hm
 exact frz_here k
theorem stb_frz {H : List Asn} {R : World → Prop} {w : World} (h : Cl w0 fp H w) (hm : Sx.frz R ∈ H) : Stb w [] R := by
 obtain ⟨bs, h2⟩ := h.split0.2.1 _ hm
 exact ⟨fun w' k => frz_here (h2.stb w' k)⟩
structure Reb (w0 : World) (fp : List Nat) (F : List Asn) (w1 : World) (bs : List Nat) : Prop where
 stb : ∀ {R : World → Prop}, Stb w0 fp R → Stb w1 bs R
 fr : ∀ G ∈ F, ∃ b2, Stb w1 bs fun w' => G.holds w' b2
 cl : ∀ {B : List Asn} {w' : World}, Cl w1 bs B w' → Cl w0 fp B w'
theorem Cl.left {B F : List Asn} {w : World} (h : Cl w0 fp (B ++ F) w) : Cl w0 fp B w := by
 obtain ⟨hc, bs, hs, hn, hb⟩ := h
 obtain ⟨b1, b2, rfl, h1, h2⟩ := Sep.append.1 hs
 exact ⟨hc, b1, h1, (List.nodup_append.1 hn).1, fun b h => hb b (by simp [h])⟩
theorem Cl.reb {A F : List Asn} {w : World} (h : Cl w0 fp (A ++ F) w) : ∃ bs, Cl w bs A w ∧ Reb w0 fp F w bs := by
 obtain ⟨bs, h1, h2, h3, h4, h5, h6⟩ := h.split
 exact ⟨bs, Cl.start h1 h2 h3, fun hR => h4 _ hR, h5, fun hB => (h6 _ _ hB).left⟩
theorem Reb.own {α : Type} [Enc α] {F : List Asn} {w1 : World} {bs : List Nat} (h : Reb w0 fp F w1 bs) {e : TypeId} {sv : Value} {l : List α} (hm : ownL e sv l ∈ F) : Stb w1 bs (RdL sv l) := by
 obtain ⟨b2, h2⟩ := h.fr _ hm
 exact ⟨fun w' k => ownL.rd (h2.stb w' k)⟩
theorem Reb.frz {F : List Asn} {w1 : World} {bs : List Nat} (h : Reb w0 fp F w1 bs) {R : World → Prop} (hm : Sx.frz R ∈ F) : Stb w1 bs R := by
 obtain ⟨b2, h2⟩ := h.fr _ hm
 exact ⟨fun w' k => frz_here (h2.stb w' k)⟩
theorem Reb.blk {F : List Asn} {w1 : World} {bs : List Nat} (h : Reb w0 fp F w1 bs) {b : Nat} {cells : List Value} {t : TypeId} (hm : blk b cells t ∈ F) : Stb w1 bs (BlkAt b cells t) := by
 obtain ⟨b2, h2⟩ := h.fr _ hm
 exact ⟨fun w' k => ⟨_, h2.stb w' k⟩⟩
variable {P : Program} {n : Fr} {E : Env} {C : World → Prop} {Q : Exit → Act → World → Prop}
theorem sw_reb {ops : Array Oper} {l : List Oper} {A F : List Asn} (hA : ∀ w, C w → Cl w0 fp (A ++ F) w) (h : ∀ w1 bs, Reb w0 fp F w1 bs → SW P ops Q l n E (Cl w1 bs A)) : SW P ops Q l n E C := fun a w ha hw => by
 obtain ⟨bs, h1, h2⟩ := (hA w hw).reb
 exact h w bs h2 a w ha h1
theorem cw_reb {c : Code} {A F : List Asn} (hA : ∀ w, C w → Cl w0 fp (A ++ F) w) (h : ∀ w1 bs, Reb w0 fp F w1 bs → CW P c Q n E (Cl w1 bs A)) : CW P c Q n E C := fun a w ha hw => by
 obtain ⟨bs, h1, h2⟩ := (hA w hw).reb
 exact h w bs h2 a w ha h1
theorem Stb.mono {w : World} {R R' : World → Prop} (h : Stb w fp R) (hR : ∀ w', R w' → R' w') : Stb w fp R' := ⟨fun w' k => hR _ (h.stb w' k)⟩
end Go.Sx

/-
 append behind guards that hold. General lemmas, no program text.
-/
set_option autoImplicit false
namespace Go.Sx
open Enc (enc val)
section
variable {P : Program} {ops : Array Oper} {n : Fr} {E : Env} {cs : List Bool} {o : Oper} {w0 : World} {fp : List Nat} {H : List Asn}
end
end Go.Sx

set_option autoImplicit false
set_option maxRecDepth 100000
namespace Go.Proofs.YtkmbliojafefdaaGreatDoor
open Go.Sx
open Enc (enc val)
def orL : List Int → Int
 | [] => 0
 | x :: l => if x = 0 then orL l else x
theorem orL_skip {l : List Int} {k : Nat} (h : ∀ j, j < k → nth l j = 0) (hk : k ≤ l.length) : orL l = orL (l.drop k) := by
 induction k with
 | zero => rfl
 | succ k ih =>
   rw [ih (fun j hj => h j (by omega)) (by omega), List.drop_eq_getElem_cons (by omega : k < l.length)]
   have := h k (by omega)
   rw [nth_get (by omega)] at this
   simp [orL, this]
theorem or_spec (sv : Value) (l : List Int) (w : World) (hs : Stb w [] (RdL sv l)) : Calls Tryz.prog 141 #[sv] w fun e w' => e = .returned (.int .i64 (orL l)) ∧ Cl w [] [] w' := by
 have hL := rd_len hs.here
 refine calls_cw (vs := [_]) Tryz.func141 rfl Tryz.ntmps141 rfl (Cl.start0 w) (zr (za rfl (nP (cw_seq (cw_region (za rfl (sw_nil (post_then (cw_seq (cw_seq (cw_region (zm rfl ?_))))))))))))
 refine zS rfl (q_len rfl (.k rfl (.nil)) (stA (by assumption))) ?_
 refine zm rfl (nP (cw_block ?_))
 refine cw_loop (S := Nat) (fun k => [(0, [], sv), (3, [], .int .i64 0), (6, [], sv), (7, [], .int .i64 l.length), (8, [], .int .i64 k)]) (fun _ => Cl w [] []) (fun k => k ≤ l.length ∧ ∀ j, j < k → nth l j = 0) (fun k => l.length - k) 0 ⟨by omega, fun j hj => by omega⟩ (by exact .cons rfl (.cons rfl (.cons rfl (.cons rfl (.cons rfl .nil))))) (fun _ h => h) ?_
 rintro k ⟨hk, hbe⟩
 refine zr (zS rfl (q_lss rfl rfl rfl) (nP (cw_seq ?_)))
 refine cw_cond rfl (fun h => ?_) (fun h => ?_)
 · have hk' : k < l.length := by simp at h; omega
   refine sP (cw_seq (cw_block (zr ?_)))
   refine zS rfl (q_indexN rfl rfl rfl (stA (by assumption)) (by intro hc; omega)) ?_
   refine zS rfl (q_loadEl rfl rfl rfl (stA (by assumption)) (by intro hc; omega)) ?_
   refine za rfl (nP (zr (zm rfl (zm rfl (zS rfl (q_neq rfl rfl rfl) (sw_nil (post_then ?_)))))))
   refine cw_cond rfl (fun h2 => ?_) (fun h2 => ?_)
   · have h3 : orL l = nth l k := by
       rw [orL_skip hbe (by omega), List.drop_eq_getElem_cons hk', ← nth_get hk']
       simp at h2
       simp [orL, h2]
     refine zr (zm rfl (za rfl (nP (cw_ret (post_blk_r (post_then_r (post_then_r (post_blk_r (post_then_r (post_ret1 rfl (resOk_tmp rfl) ?_))))))))))
     exact fun w' hw => ⟨by rw [h3]; rfl, hw⟩
   · refine cw_skip (post_blk (post_then (cw_region ?_)))
     refine zS rfl (q_add rfl rfl rfl (by intro hc; omega)) ?_
     refine zm rfl (sw_nil ?_)
     refine post_next (k + 1) (by exact .cons rfl (.cons rfl (.cons rfl (.cons rfl (.cons rfl .nil))))) (fun _ h => h) ⟨by omega, fun j hj => ?_⟩ (by omega)
     by_cases hjk : j = k
     · rw [hjk]; simpa using h2
     · exact hbe j (by omega)
 · have hk' : k = l.length := by simp at h; omega
   subst hk'
   have h3 : orL l = 0 := by rw [orL_skip hbe (Nat.le_refl _), List.drop_length]; rfl
   refine cw_exit (post_then_x (post_then_x (post_blk_eq (post_then (zr (zm rfl (za rfl (nP (cw_ret (post_ret1 rfl (resOk_tmp rfl) ?_))))))))))
   exact fun w' hw => ⟨by rw [h3], hw⟩
theorem ordL_stepS {a b : List ByteArray} {k : Nat} (ha : k < a.length) (hb : k < b.length) : ordL (a.drop k) (b.drop k) = if cmpS (nth a k) (nth b k) = 0 then ordL (a.drop (k + 1)) (b.drop (k + 1)) else cmpS (nth a k) (nth b k) := by
 rw [ordL_step ha hb]
 unfold cmpS
 by_cases h : nth a k = nth b k
 · simp [h]
 · simp only [if_neg h]
   split <;> simp
theorem compareL_spec (sa sb : Value) (a b : List ByteArray) (w : World) (ha : Stb w [] (RdL sa a)) (hb : Stb w [] (RdL sb b)) : Calls Tryz.prog 142 #[sa, sb] w fun e w' => e = .returned (.int .i64 (ordL a b)) ∧ Cl w [] [] w' := by
 have hLa := rd_len ha.here
 have hLb := rd_len hb.here
 refine calls_cw (vs := [_, _]) Tryz.func142 rfl Tryz.ntmps142 rfl (Cl.start0 w) (zr (za rfl (nP (cw_seq (cw_seq (cw_region (zm rfl ?_)))))))
 refine zS rfl (q_len rfl (.k rfl (.nil)) (stA (by assumption))) ?_
 refine zm rfl (nP (cw_block ?_))
 refine cw_loop (S := Nat) (fun k => [(0, [], sa), (1, [], sb), (9, [], sa), (10, [], .int .i64 a.length), (11, [], .int .i64 k)]) (fun _ => Cl w [] []) (fun k => k ≤ a.length ∧ k ≤ b.length ∧ ordL a b = ordL (a.drop k) (b.drop k)) (fun k => a.length - k) 0 ⟨Nat.zero_le _, Nat.zero_le _, rfl⟩ (by exact .cons rfl (.cons rfl (.cons rfl (.cons rfl (.cons rfl .nil))))) (fun _ h => h) ?_
 rintro k ⟨hk, hk2, hbe⟩
 refine zr (zS rfl (q_lss rfl rfl rfl) (nP (cw_seq ?_)))
 refine cw_cond rfl (fun h => ?_) (fun h => ?_)
 · have hk' : k < a.length := by simp at h; omega
   refine sP (cw_seq (cw_block (zr (zm rfl ?_))))
   refine zS rfl (q_indexN rfl rfl rfl (stA (by assumption)) (by intro hc; omega)) ?_
   refine zS rfl (q_loadEl rfl rfl rfl (stA (by assumption)) (by intro hc; omega)) ?_
   refine za rfl (za rfl (nP (cw_seq (zr (zm rfl (zm rfl ?_))))))
   refine zS rfl (q_len rfl (.k rfl (.nil)) (stA (by assumption))) ?_
   refine zS rfl (q_geq rfl rfl rfl) (nP ?_)
   refine cw_cond rfl (fun h2 => ?_) (fun h2 => ?_)
   · have h4 : k = b.length := by simp at h2; omega
     have h3 : ordL a b = 1 := by rw [hbe, h4, List.drop_length, List.drop_eq_getElem_cons (by omega : b.length < a.length)]; rfl
     refine zr (za rfl (nP (cw_ret (post_then_r (post_blk_r (post_then_r (post_then_r (post_blk_r (post_then_r (post_ret1 rfl (resOk_tmp rfl) ?_))))))))))
     exact fun w' hw => ⟨by rw [h3], hw⟩
   · have h4 : k < b.length := by simp at h2; omega
     have hst := ordL_stepS hk' h4
     refine sP (zr (zm rfl (zm rfl ?_)))
     refine zS rfl (q_indexN rfl rfl rfl (stA (by assumption)) (by intro hc; omega)) ?_
     refine zS rfl (q_loadEl rfl rfl rfl (stA (by assumption)) (by intro hc; omega)) ?_
     refine za rfl (nP (zr (zm rfl (zm rfl (sw_step rfl rfl rfl (q_call (CanCall.mk Tryz.call171) rfl (.k rfl (.k rfl (.nil))) (fun _ w hw => callq hw (compareS_spec _ _ w))) (za rfl (sw_nil (post_then (cw_seq (cw_region (zm rfl (zS rfl (q_neq rfl rfl rfl) (sw_nil (post_then ?_))))))))))))))
     refine cw_cond rfl (fun h5 => ?_) (fun h5 => ?_)
     · have h3 : ordL a b = cmpS (nth a k) (nth b k) := by
         simp at h5
         rw [hbe, hst, if_neg h5]
       refine zr (zm rfl (za rfl (nP (cw_ret (post_blk_r (post_then_r (post_then_r (post_blk_r (post_then_r (post_ret1 rfl (resOk_tmp rfl) ?_))))))))))
       exact fun w' hw => ⟨by rw [h3], hw⟩
     · refine cw_skip (post_blk (post_then (cw_region ?_)))
       refine zS rfl (q_add rfl rfl rfl (by intro hc; omega)) ?_
       refine zm rfl (sw_nil ?_)
       exact post_next (k + 1) (by exact .cons rfl (.cons rfl (.cons rfl (.cons rfl (.cons rfl .nil))))) (fun _ h => h) ⟨by omega, by omega, by simp at h5; rw [hbe, hst, if_pos h5]⟩ (by omega)
 · have hk' : k = a.length := by simp at h; omega
   subst hk'
   refine cw_exit (post_then_x (post_then_x (post_blk_eq (post_then (cw_seq (zr (zm rfl ?_)))))))
   refine zS rfl (q_len rfl (.k rfl (.nil)) (stA (by assumption))) ?_
   refine zm rfl ?_
   refine zS rfl (q_len rfl (.k rfl (.nil)) (stA (by assumption))) ?_
   refine zS rfl (q_lss rfl rfl rfl) (nP ?_)
   refine cw_cond rfl (fun h2 => ?_) (fun h2 => ?_)
   · have h3 : ordL a b = -1 := by
       simp at h2
       rw [hbe, List.drop_length, List.drop_eq_getElem_cons (by omega : a.length < b.length)]; rfl
     refine zr (za rfl (nP (cw_ret (post_then_r (post_ret1 rfl (resOk_tmp rfl) ?_)))))
     exact fun w' hw => ⟨by rw [h3], hw⟩
   · have h3 : ordL a b = 0 := by
       simp at h2
       rw [hbe, List.drop_length, List.drop_eq_nil_of_le (by omega)]; rfl
     refine sP (zr (za rfl (nP (cw_ret (post_ret1 rfl (resOk_tmp rfl) ?_)))))
     exact fun w' hw => ⟨by rw [h3], hw⟩
def prC (a b : Pr) : Int := orL [sgn (a.c - b.c), ordL a.pl b.pl]
theorem byPair_spec (a b : Pr) (w : World) (ha : Stb w [] (RdL a.p.v a.pl)) (hb : Stb w [] (RdL b.p.v b.pl)) : Calls Tryz.prog 105 #[val a, val b] w fun e w' => e = .returned (.int .i64 (prC a b)) ∧ Cl w [] [] w' := by
 refine calls_cw (vs := [_, _]) Tryz.func105 rfl Tryz.ntmps105 rfl (Cl.start0 w) (zr ?_)
 refine sw_x rfl rfl rfl (e_box rfl rfl rfl) (fun b2 => ?_)
 refine sw_x rfl rfl rfl (e_box rfl rfl rfl) (fun b3 => ?_)
 refine za rfl (nP (cw_seq (cw_region_a (Cl w [] [blk b3 (enc b) 68, blk b2 (enc a) 68]) [] mixed_Tryz ?_)))
 refine zk 0 (Cl.sel (by exact .take 0 rfl (.take 0 rfl (.nil _)))) rfl (q_fieldAddr rfl rfl) ?_
 refine zk 1 (Cl.sel (by exact .take 0 rfl (.take 0 rfl (.nil _)))) rfl (q_loadC rfl rfl (by exact .tail _ (.head _)) rfl) ?_
 refine zk 2 (Cl.sel (by exact .take 0 rfl (.take 0 rfl (.nil _)))) rfl (q_fieldAddr rfl rfl) ?_
 refine zk 3 (Cl.sel (by exact .take 0 rfl (.take 0 rfl (.nil _)))) rfl (q_loadC rfl rfl (by exact .head _) rfl) ?_
 refine zk 5 (Cl.sel (by exact .take 0 rfl (.take 0 rfl (.nil _)))) rfl (q_fieldAddr rfl rfl) ?_
 refine zk 6 (Cl.sel (by exact .take 0 rfl (.take 0 rfl (.nil _)))) rfl (q_loadC rfl rfl (by exact .tail _ (.head _)) rfl) ?_
 refine zk 7 (Cl.sel (by exact .take 0 rfl (.take 0 rfl (.nil _)))) rfl (q_fieldAddr rfl rfl) ?_
 refine zk 8 (Cl.sel (by exact .take 0 rfl (.take 0 rfl (.nil _)))) rfl (q_loadC rfl rfl (by exact .head _) rfl) ?_
 refine aw_q 4 (by kernel_rfl) rfl rfl rfl rfl (q_call (CanCall.mk Tryz.call75) rfl (.k rfl (.k rfl (.nil))) (fun _ w hw => callq hw (compareR_spec _ _ w))) (by intro hb; exact (Cl.sel (by exact .take 0 rfl (.take 0 rfl (.nil _))))) ?_
 refine aw_q 9 (by kernel_rfl) rfl rfl rfl rfl (q_call (CanCall.mk Tryz.call142) rfl (.k rfl (.k rfl (.nil))) (fun _ w hw => callq hw (compareL_spec _ _ _ _ w (by exact stb_arg hw (by assumption)) (by exact stb_arg hw (by assumption))))) (by intro hb; exact (Cl.sel (by exact .take 0 rfl (.take 0 rfl (.nil _))))) ?_
 refine aw_x 10 (by kernel_rfl) rfl rfl rfl rfl (e_buildL (α := Int) (l := [sgn (a.c - b.c), ordL a.pl b.pl]) rfl (.k rfl (.k rfl (.nil))) rfl rfl rfl rfl) (by intro hb; exact fun _ => (Cl.sel (by exact .take 1 rfl (.take 1 rfl (.nil _))))) (fun s15 => ?_)
 refine aw_q 11 (by kernel_rfl) rfl rfl rfl rfl (q_call (CanCall.mk Tryz.call141) rfl (.k rfl (.nil)) (fun _ w hw => callq hw (or_spec _ _ w (by exact stb_own hw (by exact .head _))))) (by intro hb; exact (Cl.sel (by exact .take 1 rfl (.take 1 rfl (.nil _))))) ?_
 refine zp 12 rfl (q_assign rfl rfl) ?_
 refine aw_end (by kernel_rfl) ?_
 refine post_then (cw_ret (post_ret1 rfl (resOk_tmp rfl) ?_))
 exact fun w' hw => ⟨rfl, (Cl.sel (by exact .nil _)) _ hw⟩
end Go.Proofs.YtkmbliojafefdaaGreatDoor

set_option autoImplicit false
set_option maxRecDepth 100000
namespace Go.Proofs.YtkmbliojafefdaaGreatDoor
open Go.Sx
open Enc (enc val)
def idxP {α : Type} (p : α → Bool) (xs : List α) : Int := match xs.findIdx? p with
 | some i => i
 | none => -1
theorem idxP_at {α : Type} [Inhabited α] {p : α → Bool} {xs : List α} {k : Nat} (hk : k < xs.length) (h : ∀ j, j < k → p (nth xs j) = false) (hp : p (nth xs k) = true) : idxP p xs = k := by
 have : xs.findIdx? p = some k := by
   rw [List.findIdx?_eq_some_iff_getElem]
   refine ⟨hk, by rw [← nth_get hk]; exact hp, fun j hj => ?_⟩
   have := h j hj
   rw [nth_get (by omega)] at this
   simp [this]
 simp [idxP, this]
theorem idxP_none {α : Type} [Inhabited α] {p : α → Bool} {xs : List α} (h : ∀ j, j < xs.length → p (nth xs j) = false) : idxP p xs = -1 := by
 have : xs.findIdx? p = none := by
   rw [List.findIdx?_eq_none_iff]
   intro x hx
   obtain ⟨i, hi, rfl⟩ := List.getElem_of_mem hx
   have := h i hi
   rw [nth_get hi] at this
   exact this
 simp [idxP, this]
theorem idxP_any {α : Type} {p : α → Bool} {xs : List α} : decide (0 ≤ idxP p xs) = xs.any p := by
 unfold idxP
 cases h : xs.findIdx? p with
 | none =>
   rw [List.findIdx?_eq_none_iff] at h
   have : xs.any p = false := by rw [List.any_eq_false]; intro x hx; simp [h x hx]
   rw [this]; rfl
 | some i =>
   obtain ⟨hi, hp, _⟩ := List.findIdx?_eq_some_iff_getElem.1 h
   have : xs.any p = true := List.any_eq_true.2 ⟨_, List.getElem_mem hi, hp⟩
   rw [this]; simp
theorem nth_mem {α : Type} [Inhabited α] {l : List α} {i : Nat} (h : i < l.length) : nth l i ∈ l := by rw [nth_get h]; exact List.getElem_mem h
def PredL (P : Program) {α : Type} [Enc α] (g : FuncId) (cap : Array Value) (p : α → Bool) (R : World → Prop) (xs : List α) : Prop := ∀ x ∈ xs, ∀ w, R w → Calls P g ([val x].toArray ++ cap) w fun e w' => e = .returned (.bool (p x)) ∧ Cl w [] [] w'
theorem hasPr_index (sv : Value) (xs : List Pr) (g : FuncId) (cap : Array Value) (p : Pr → Bool) (R : World → Prop) (w : World) (hs : Stb w [] (RdL sv xs)) (hR : Stb w [] R) (hgc : CanCall Tryz.prog g) (hg : PredL Tryz.prog g cap p R xs) :
   Calls Tryz.prog 143 #[sv, .func (.func g) #[] cap] w fun e w' => e = .returned (.int .i64 (idxP p xs)) ∧ Cl w [] [] w' := by
 have hL := rd_len hs.here
 refine calls_cw (vs := [_, _]) Tryz.func143 rfl Tryz.ntmps143 rfl (Cl.start0 w) (zr (za rfl (nP (cw_seq (cw_seq (cw_region (zm rfl ?_)))))))
 refine zS rfl (q_len rfl (.k rfl (.nil)) (stA (by assumption))) ?_
 refine zm rfl (nP (cw_block ?_))
 refine cw_loop (S := Nat) (fun k => [(0, [], sv), (1, [], .func (.func g) #[] cap), (7, [], .int .i64 xs.length), (8, [], .int .i64 k)]) (fun _ => Cl w [] []) (fun k => k ≤ xs.length ∧ ∀ j, j < k → p (nth xs j) = false) (fun k => xs.length - k) 0 ⟨by omega, fun j hj => by omega⟩ (by exact .cons rfl (.cons rfl (.cons rfl (.cons rfl .nil)))) (fun _ h => h) ?_
 rintro k ⟨hk, hbe⟩
 refine zr (zS rfl (q_lss rfl rfl rfl) (nP (cw_seq ?_)))
 refine cw_cond rfl (fun h => ?_) (fun h => ?_)
 · have hk' : k < xs.length := by simp only [decide_eq_true_eq] at h; omega
   refine sP (cw_seq (cw_block (zr (zm rfl (za rfl (nP (cw_seq (cw_region (zm rfl (zm rfl (zm rfl ?_)))))))))))
   refine zS rfl (q_indexN rfl rfl rfl (stA (by assumption)) (by intro hc; omega)) ?_
   refine zS rfl (q_loadEl rfl rfl rfl (stA (by assumption)) (by intro hc; omega)) ?_
   refine sw_step rfl rfl rfl (q_callv hgc rfl rfl (.k rfl (.nil)) (fun _ w' hw => callq hw (hg (nth xs k) (nth_mem hk') w' (hR.cl hw)))) (nP ?_)
   refine cw_cond rfl (fun h2 => ?_) (fun h2 => ?_)
   · refine zr (zm rfl (za rfl (nP (cw_ret (post_blk_r (post_then_r (post_then_r (post_blk_r (post_then_r (post_ret1 rfl (resOk_tmp rfl) ?_))))))))))
     exact fun w' hw => ⟨by rw [idxP_at hk' hbe h2], hw⟩
   · refine cw_skip (post_blk (post_then (cw_region ?_)))
     refine zS rfl (q_add rfl rfl rfl (by intro hc; omega)) ?_
     refine zm rfl (sw_nil ?_)
     refine post_next (k + 1) (by exact .cons rfl (.cons rfl (.cons rfl (.cons rfl .nil)))) (fun _ h => h) ⟨by omega, fun j hj => ?_⟩ (by omega)
     by_cases hjk : j = k
     · rw [hjk]; exact h2
     · exact hbe j (by omega)
 · have hk' : k = xs.length := by simp only [decide_eq_false_iff_not] at h; omega
   subst hk'
   refine cw_exit (post_then_x (post_then_x (post_blk_eq (post_then (zr (za rfl (nP (cw_ret (post_ret1 rfl (resOk_tmp rfl) ?_)))))))))
   exact fun w' hw => ⟨by rw [idxP_none hbe], hw⟩
theorem hasPr_spec (sv : Value) (xs : List Pr) (g : FuncId) (cap : Array Value) (p : Pr → Bool) (R : World → Prop) (w : World) (hs : Stb w [] (RdL sv xs)) (hR : Stb w [] R) (hgc : CanCall Tryz.prog g) (hg : PredL Tryz.prog g cap p R xs) :
   Calls Tryz.prog 106 #[sv, .func (.func g) #[] cap] w fun e w' => e = .returned (.bool (xs.any p)) ∧ Cl w [] [] w' := by
 refine calls_cw (vs := [_, _]) Tryz.func106 rfl Tryz.ntmps106 rfl (Cl.start0 w) (zr (za rfl (nP (cw_seq (cw_region (zm rfl (zm rfl ?_)))))))
 refine sw_step rfl rfl rfl (q_call (CanCall.mk Tryz.call143) rfl (.k rfl (.k rfl (.nil))) (fun _ w hw => callq hw (hasPr_index _ _ _ _ _ _ w (by exact stb_arg hw (by assumption)) (stb_arg hw hR) hgc hg))) ?_
 refine zS rfl (q_geq rfl rfl rfl) (za rfl (nP (cw_ret (post_ret1 rfl (resOk_tmp rfl) ?_))))
 exact fun w' hw => ⟨by rw [idxP_any], hw⟩
theorem hasJnt_index (sv : Value) (xs : List Jnt) (g : FuncId) (cap : Array Value) (p : Jnt → Bool) (R : World → Prop) (w : World) (hs : Stb w [] (RdL sv xs)) (hR : Stb w [] R) (hgc : CanCall Tryz.prog g) (hg : PredL Tryz.prog g cap p R xs) :
   Calls Tryz.prog 88 #[sv, .func (.func g) #[] cap] w fun e w' => e = .returned (.int .i64 (idxP p xs)) ∧ Cl w [] [] w' := by
 have hL := rd_len hs.here
 refine calls_cw (vs := [_, _]) Tryz.func88 rfl Tryz.ntmps88 rfl (Cl.start0 w) (zr (za rfl (nP (cw_seq (cw_seq (cw_region (zm rfl ?_)))))))
 refine zS rfl (q_len rfl (.k rfl (.nil)) (stA (by assumption))) ?_
 refine zm rfl (nP (cw_block ?_))
 refine cw_loop (S := Nat) (fun k => [(0, [], sv), (1, [], .func (.func g) #[] cap), (7, [], .int .i64 xs.length), (8, [], .int .i64 k)]) (fun _ => Cl w [] []) (fun k => k ≤ xs.length ∧ ∀ j, j < k → p (nth xs j) = false) (fun k => xs.length - k) 0 ⟨by omega, fun j hj => by omega⟩ (by exact .cons rfl (.cons rfl (.cons rfl (.cons rfl .nil)))) (fun _ h => h) ?_
 rintro k ⟨hk, hbe⟩
 refine zr (zS rfl (q_lss rfl rfl rfl) (nP (cw_seq ?_)))
 refine cw_cond rfl (fun h => ?_) (fun h => ?_)
 · have hk' : k < xs.length := by simp only [decide_eq_true_eq] at h; omega
   refine sP (cw_seq (cw_block (zr (zm rfl (za rfl (nP (cw_seq (cw_region (zm rfl (zm rfl (zm rfl ?_)))))))))))
   refine zS rfl (q_indexN rfl rfl rfl (stA (by assumption)) (by intro hc; omega)) ?_
   refine zS rfl (q_loadEl rfl rfl rfl (stA (by assumption)) (by intro hc; omega)) ?_
   refine sw_step rfl rfl rfl (q_callv hgc rfl rfl (.k rfl (.nil)) (fun _ w' hw => callq hw (hg (nth xs k) (nth_mem hk') w' (hR.cl hw)))) (nP ?_)
   refine cw_cond rfl (fun h2 => ?_) (fun h2 => ?_)
   · refine zr (zm rfl (za rfl (nP (cw_ret (post_blk_r (post_then_r (post_then_r (post_blk_r (post_then_r (post_ret1 rfl (resOk_tmp rfl) ?_))))))))))
     exact fun w' hw => ⟨by rw [idxP_at hk' hbe h2], hw⟩
   · refine cw_skip (post_blk (post_then (cw_region ?_)))
     refine zS rfl (q_add rfl rfl rfl (by intro hc; omega)) ?_
     refine zm rfl (sw_nil ?_)
     refine post_next (k + 1) (by exact .cons rfl (.cons rfl (.cons rfl (.cons rfl .nil)))) (fun _ h => h) ⟨by omega, fun j hj => ?_⟩ (by omega)
     by_cases hjk : j = k
     · rw [hjk]; exact h2
     · exact hbe j (by omega)
 · have hk' : k = xs.length := by simp only [decide_eq_false_iff_not] at h; omega
   subst hk'
   refine cw_exit (post_then_x (post_then_x (post_blk_eq (post_then (zr (za rfl (nP (cw_ret (post_ret1 rfl (resOk_tmp rfl) ?_)))))))))
   exact fun w' hw => ⟨by rw [idxP_none hbe], hw⟩
theorem hasJnt_spec (sv : Value) (xs : List Jnt) (g : FuncId) (cap : Array Value) (p : Jnt → Bool) (R : World → Prop) (w : World) (hs : Stb w [] (RdL sv xs)) (hR : Stb w [] R) (hgc : CanCall Tryz.prog g) (hg : PredL Tryz.prog g cap p R xs) :
   Calls Tryz.prog 82 #[sv, .func (.func g) #[] cap] w fun e w' => e = .returned (.bool (xs.any p)) ∧ Cl w [] [] w' := by
 refine calls_cw (vs := [_, _]) Tryz.func82 rfl Tryz.ntmps82 rfl (Cl.start0 w) (zr (za rfl (nP (cw_seq (cw_region (zm rfl (zm rfl ?_)))))))
 refine sw_step rfl rfl rfl (q_call (CanCall.mk Tryz.call88) rfl (.k rfl (.k rfl (.nil))) (fun _ w hw => callq hw (hasJnt_index _ _ _ _ _ _ w (by exact stb_arg hw (by assumption)) (stb_arg hw hR) hgc hg))) ?_
 refine zS rfl (q_geq rfl rfl rfl) (za rfl (nP (cw_ret (post_ret1 rfl (resOk_tmp rfl) ?_))))
 exact fun w' hw => ⟨by rw [idxP_any], hw⟩
theorem hasCond_index (sv : Value) (xs : List Cond) (g : FuncId) (cap : Array Value) (p : Cond → Bool) (R : World → Prop) (w : World) (hs : Stb w [] (RdL sv xs)) (hR : Stb w [] R) (hgc : CanCall Tryz.prog g) (hg : PredL Tryz.prog g cap p R xs) :
   Calls Tryz.prog 159 #[sv, .func (.func g) #[] cap] w fun e w' => e = .returned (.int .i64 (idxP p xs)) ∧ Cl w [] [] w' := by
 have hL := rd_len hs.here
 refine calls_cw (vs := [_, _]) Tryz.func159 rfl Tryz.ntmps159 rfl (Cl.start0 w) (zr (za rfl (nP (cw_seq (cw_seq (cw_region (zm rfl ?_)))))))
 refine zS rfl (q_len rfl (.k rfl (.nil)) (stA (by assumption))) ?_
 refine zm rfl (nP (cw_block ?_))
 refine cw_loop (S := Nat) (fun k => [(0, [], sv), (1, [], .func (.func g) #[] cap), (7, [], .int .i64 xs.length), (8, [], .int .i64 k)]) (fun _ => Cl w [] []) (fun k => k ≤ xs.length ∧ ∀ j, j < k → p (nth xs j) = false) (fun k => xs.length - k) 0 ⟨by omega, fun j hj => by omega⟩ (by exact .cons rfl (.cons rfl (.cons rfl (.cons rfl .nil)))) (fun _ h => h) ?_
 rintro k ⟨hk, hbe⟩
 refine zr (zS rfl (q_lss rfl rfl rfl) (nP (cw_seq ?_)))
 refine cw_cond rfl (fun h => ?_) (fun h => ?_)
 · have hk' : k < xs.length := by simp only [decide_eq_true_eq] at h; omega
   refine sP (cw_seq (cw_block (zr (zm rfl (za rfl (nP (cw_seq (cw_region (zm rfl (zm rfl (zm rfl ?_)))))))))))
   refine zS rfl (q_indexN rfl rfl rfl (stA (by assumption)) (by intro hc; omega)) ?_
   refine zS rfl (q_loadEl rfl rfl rfl (stA (by assumption)) (by intro hc; omega)) ?_
   refine sw_step rfl rfl rfl (q_callv hgc rfl rfl (.k rfl (.nil)) (fun _ w' hw => callq hw (hg (nth xs k) (nth_mem hk') w' (hR.cl hw)))) (nP ?_)
   refine cw_cond rfl (fun h2 => ?_) (fun h2 => ?_)
   · refine zr (zm rfl (za rfl (nP (cw_ret (post_blk_r (post_then_r (post_then_r (post_blk_r (post_then_r (post_ret1 rfl (resOk_tmp rfl) ?_))))))))))
     exact fun w' hw => ⟨by rw [idxP_at hk' hbe h2], hw⟩
   · refine cw_skip (post_blk (post_then (cw_region ?_)))
     refine zS rfl (q_add rfl rfl rfl (by intro hc; omega)) ?_
     refine zm rfl (sw_nil ?_)
     refine post_next (k + 1) (by exact .cons rfl (.cons rfl (.cons rfl (.cons rfl .nil)))) (fun _ h => h) ⟨by omega, fun j hj => ?_⟩ (by omega)
     by_cases hjk : j = k
     · rw [hjk]; exact h2
     · exact hbe j (by omega)
 · have hk' : k = xs.length := by simp only [decide_eq_false_iff_not] at h; omega
   subst hk'
   refine cw_exit (post_then_x (post_then_x (post_blk_eq (post_then (zr (za rfl (nP (cw_ret (post_ret1 rfl (resOk_tmp rfl) ?_)))))))))
   exact fun w' hw => ⟨by rw [idxP_none hbe], hw⟩
theorem hasCond_spec (sv : Value) (xs : List Cond) (g : FuncId) (cap : Array Value) (p : Cond → Bool) (R : World → Prop) (w : World) (hs : Stb w [] (RdL sv xs)) (hR : Stb w [] R) (hgc : CanCall Tryz.prog g) (hg : PredL Tryz.prog g cap p R xs) :
   Calls Tryz.prog 124 #[sv, .func (.func g) #[] cap] w fun e w' => e = .returned (.bool (xs.any p)) ∧ Cl w [] [] w' := by
 refine calls_cw (vs := [_, _]) Tryz.func124 rfl Tryz.ntmps124 rfl (Cl.start0 w) (zr (za rfl (nP (cw_seq (cw_region (zm rfl (zm rfl ?_)))))))
 refine sw_step rfl rfl rfl (q_call (CanCall.mk Tryz.call159) rfl (.k rfl (.k rfl (.nil))) (fun _ w hw => callq hw (hasCond_index _ _ _ _ _ _ w (by exact stb_arg hw (by assumption)) (stb_arg hw hR) hgc hg))) ?_
 refine zS rfl (q_geq rfl rfl rfl) (za rfl (nP (cw_ret (post_ret1 rfl (resOk_tmp rfl) ?_))))
 exact fun w' hw => ⟨by rw [idxP_any], hw⟩
theorem hasFgn_index (sv : Value) (xs : List Fgn) (g : FuncId) (cap : Array Value) (p : Fgn → Bool) (R : World → Prop) (w : World) (hs : Stb w [] (RdL sv xs)) (hR : Stb w [] R) (hgc : CanCall Tryz.prog g) (hg : PredL Tryz.prog g cap p R xs) :
   Calls Tryz.prog 160 #[sv, .func (.func g) #[] cap] w fun e w' => e = .returned (.int .i64 (idxP p xs)) ∧ Cl w [] [] w' := by
 have hL := rd_len hs.here
 refine calls_cw (vs := [_, _]) Tryz.func160 rfl Tryz.ntmps160 rfl (Cl.start0 w) (zr (za rfl (nP (cw_seq (cw_seq (cw_region (zm rfl ?_)))))))
 refine zS rfl (q_len rfl (.k rfl (.nil)) (stA (by assumption))) ?_
 refine zm rfl (nP (cw_block ?_))
 refine cw_loop (S := Nat) (fun k => [(0, [], sv), (1, [], .func (.func g) #[] cap), (7, [], .int .i64 xs.length), (8, [], .int .i64 k)]) (fun _ => Cl w [] []) (fun k => k ≤ xs.length ∧ ∀ j, j < k → p (nth xs j) = false) (fun k => xs.length - k) 0 ⟨by omega, fun j hj => by omega⟩ (by exact .cons rfl (.cons rfl (.cons rfl (.cons rfl .nil)))) (fun _ h => h) ?_
 rintro k ⟨hk, hbe⟩
 refine zr (zS rfl (q_lss rfl rfl rfl) (nP (cw_seq ?_)))
 refine cw_cond rfl (fun h => ?_) (fun h => ?_)
 · have hk' : k < xs.length := by simp only [decide_eq_true_eq] at h; omega
   refine sP (cw_seq (cw_block (zr (zm rfl (za rfl (nP (cw_seq (cw_region (zm rfl (zm rfl (zm rfl ?_)))))))))))
   refine zS rfl (q_indexN rfl rfl rfl (stA (by assumption)) (by intro hc; omega)) ?_
   refine zS rfl (q_loadEl rfl rfl rfl (stA (by assumption)) (by intro hc; omega)) ?_
   refine sw_step rfl rfl rfl (q_callv hgc rfl rfl (.k rfl (.nil)) (fun _ w' hw => callq hw (hg (nth xs k) (nth_mem hk') w' (hR.cl hw)))) (nP ?_)
   refine cw_cond rfl (fun h2 => ?_) (fun h2 => ?_)
   · refine zr (zm rfl (za rfl (nP (cw_ret (post_blk_r (post_then_r (post_then_r (post_blk_r (post_then_r (post_ret1 rfl (resOk_tmp rfl) ?_))))))))))
     exact fun w' hw => ⟨by rw [idxP_at hk' hbe h2], hw⟩
   · refine cw_skip (post_blk (post_then (cw_region ?_)))
     refine zS rfl (q_add rfl rfl rfl (by intro hc; omega)) ?_
     refine zm rfl (sw_nil ?_)
     refine post_next (k + 1) (by exact .cons rfl (.cons rfl (.cons rfl (.cons rfl .nil)))) (fun _ h => h) ⟨by omega, fun j hj => ?_⟩ (by omega)
     by_cases hjk : j = k
     · rw [hjk]; exact h2
     · exact hbe j (by omega)
 · have hk' : k = xs.length := by simp only [decide_eq_false_iff_not] at h; omega
   subst hk'
   refine cw_exit (post_then_x (post_then_x (post_blk_eq (post_then (zr (za rfl (nP (cw_ret (post_ret1 rfl (resOk_tmp rfl) ?_)))))))))
   exact fun w' hw => ⟨by rw [idxP_none hbe], hw⟩
theorem hasFgn_spec (sv : Value) (xs : List Fgn) (g : FuncId) (cap : Array Value) (p : Fgn → Bool) (R : World → Prop) (w : World) (hs : Stb w [] (RdL sv xs)) (hR : Stb w [] R) (hgc : CanCall Tryz.prog g) (hg : PredL Tryz.prog g cap p R xs) :
   Calls Tryz.prog 129 #[sv, .func (.func g) #[] cap] w fun e w' => e = .returned (.bool (xs.any p)) ∧ Cl w [] [] w' := by
 refine calls_cw (vs := [_, _]) Tryz.func129 rfl Tryz.ntmps129 rfl (Cl.start0 w) (zr (za rfl (nP (cw_seq (cw_region (zm rfl (zm rfl ?_)))))))
 refine sw_step rfl rfl rfl (q_call (CanCall.mk Tryz.call160) rfl (.k rfl (.k rfl (.nil))) (fun _ w hw => callq hw (hasFgn_index _ _ _ _ _ _ w (by exact stb_arg hw (by assumption)) (stb_arg hw hR) hgc hg))) ?_
 refine zS rfl (q_geq rfl rfl rfl) (za rfl (nP (cw_ret (post_ret1 rfl (resOk_tmp rfl) ?_))))
 exact fun w' hw => ⟨by rw [idxP_any], hw⟩
theorem hasSp_index (sv : Value) (xs : List Sp) (g : FuncId) (cap : Array Value) (p : Sp → Bool) (R : World → Prop) (w : World) (hs : Stb w [] (RdL sv xs)) (hR : Stb w [] R) (hgc : CanCall Tryz.prog g) (hg : PredL Tryz.prog g cap p R xs) :
   Calls Tryz.prog 162 #[sv, .func (.func g) #[] cap] w fun e w' => e = .returned (.int .i64 (idxP p xs)) ∧ Cl w [] [] w' := by
 have hL := rd_len hs.here
 refine calls_cw (vs := [_, _]) Tryz.func162 rfl Tryz.ntmps162 rfl (Cl.start0 w) (zr (za rfl (nP (cw_seq (cw_seq (cw_region (zm rfl ?_)))))))
 refine zS rfl (q_len rfl (.k rfl (.nil)) (stA (by assumption))) ?_
 refine zm rfl (nP (cw_block ?_))
 refine cw_loop (S := Nat) (fun k => [(0, [], sv), (1, [], .func (.func g) #[] cap), (7, [], .int .i64 xs.length), (8, [], .int .i64 k)]) (fun _ => Cl w [] []) (fun k => k ≤ xs.length ∧ ∀ j, j < k → p (nth xs j) = false) (fun k => xs.length - k) 0 ⟨by omega, fun j hj => by omega⟩ (by exact .cons rfl (.cons rfl (.cons rfl (.cons rfl .nil)))) (fun _ h => h) ?_
 rintro k ⟨hk, hbe⟩
 refine zr (zS rfl (q_lss rfl rfl rfl) (nP (cw_seq ?_)))
 refine cw_cond rfl (fun h => ?_) (fun h => ?_)
 · have hk' : k < xs.length := by simp only [decide_eq_true_eq] at h; omega
   refine sP (cw_seq (cw_block (zr (zm rfl (za rfl (nP (cw_seq (cw_region (zm rfl (zm rfl (zm rfl ?_)))))))))))
   refine zS rfl (q_indexN rfl rfl rfl (stA (by assumption)) (by intro hc; omega)) ?_
   refine zS rfl (q_loadEl rfl rfl rfl (stA (by assumption)) (by intro hc; omega)) ?_
   refine sw_step rfl rfl rfl (q_callv hgc rfl rfl (.k rfl (.nil)) (fun _ w' hw => callq hw (hg (nth xs k) (nth_mem hk') w' (hR.cl hw)))) (nP ?_)
   refine cw_cond rfl (fun h2 => ?_) (fun h2 => ?_)
   · refine zr (zm rfl (za rfl (nP (cw_ret (post_blk_r (post_then_r (post_then_r (post_blk_r (post_then_r (post_ret1 rfl (resOk_tmp rfl) ?_))))))))))
     exact fun w' hw => ⟨by rw [idxP_at hk' hbe h2], hw⟩
   · refine cw_skip (post_blk (post_then (cw_region ?_)))
     refine zS rfl (q_add rfl rfl rfl (by intro hc; omega)) ?_
     refine zm rfl (sw_nil ?_)
     refine post_next (k + 1) (by exact .cons rfl (.cons rfl (.cons rfl (.cons rfl .nil)))) (fun _ h => h) ⟨by omega, fun j hj => ?_⟩ (by omega)
     by_cases hjk : j = k
     · rw [hjk]; exact h2
     · exact hbe j (by omega)
 · have hk' : k = xs.length := by simp only [decide_eq_false_iff_not] at h; omega
   subst hk'
   refine cw_exit (post_then_x (post_then_x (post_blk_eq (post_then (zr (za rfl (nP (cw_ret (post_ret1 rfl (resOk_tmp rfl) ?_)))))))))
   exact fun w' hw => ⟨by rw [idxP_none hbe], hw⟩
theorem hasSp_spec (sv : Value) (xs : List Sp) (g : FuncId) (cap : Array Value) (p : Sp → Bool) (R : World → Prop) (w : World) (hs : Stb w [] (RdL sv xs)) (hR : Stb w [] R) (hgc : CanCall Tryz.prog g) (hg : PredL Tryz.prog g cap p R xs) :
   Calls Tryz.prog 135 #[sv, .func (.func g) #[] cap] w fun e w' => e = .returned (.bool (xs.any p)) ∧ Cl w [] [] w' := by
 refine calls_cw (vs := [_, _]) Tryz.func135 rfl Tryz.ntmps135 rfl (Cl.start0 w) (zr (za rfl (nP (cw_seq (cw_region (zm rfl (zm rfl ?_)))))))
 refine sw_step rfl rfl rfl (q_call (CanCall.mk Tryz.call162) rfl (.k rfl (.k rfl (.nil))) (fun _ w hw => callq hw (hasSp_index _ _ _ _ _ _ w (by exact stb_arg hw (by assumption)) (stb_arg hw hR) hgc hg))) ?_
 refine zS rfl (q_geq rfl rfl rfl) (za rfl (nP (cw_ret (post_ret1 rfl (resOk_tmp rfl) ?_))))
 exact fun w' hw => ⟨by rw [idxP_any], hw⟩
theorem chc_index (sv : Value) (xs : List Chc) (g : FuncId) (cap : Array Value) (p : Chc → Bool) (R : World → Prop) (w : World) (hs : Stb w [] (RdL sv xs)) (hR : Stb w [] R) (hgc : CanCall Tryz.prog g) (hg : PredL Tryz.prog g cap p R xs) :
   Calls Tryz.prog 167 #[sv, .func (.func g) #[] cap] w fun e w' => e = .returned (.int .i64 (idxP p xs)) ∧ Cl w [] [] w' := by
 have hL := rd_len hs.here
 refine calls_cw (vs := [_, _]) Tryz.func167 rfl Tryz.ntmps167 rfl (Cl.start0 w) (zr (za rfl (nP (cw_seq (cw_seq (cw_region (zm rfl ?_)))))))
 refine zS rfl (q_len rfl (.k rfl (.nil)) (stA (by assumption))) ?_
 refine zm rfl (nP (cw_block ?_))
 refine cw_loop (S := Nat) (fun k => [(0, [], sv), (1, [], .func (.func g) #[] cap), (7, [], .int .i64 xs.length), (8, [], .int .i64 k)]) (fun _ => Cl w [] []) (fun k => k ≤ xs.length ∧ ∀ j, j < k → p (nth xs j) = false) (fun k => xs.length - k) 0 ⟨by omega, fun j hj => by omega⟩ (by exact .cons rfl (.cons rfl (.cons rfl (.cons rfl .nil)))) (fun _ h => h) ?_
 rintro k ⟨hk, hbe⟩
 refine zr (zS rfl (q_lss rfl rfl rfl) (nP (cw_seq ?_)))
 refine cw_cond rfl (fun h => ?_) (fun h => ?_)
 · have hk' : k < xs.length := by simp only [decide_eq_true_eq] at h; omega
   refine sP (cw_seq (cw_block (zr (zm rfl (za rfl (nP (cw_seq (cw_region (zm rfl (zm rfl (zm rfl ?_)))))))))))
   refine zS rfl (q_indexN rfl rfl rfl (stA (by assumption)) (by intro hc; omega)) ?_
   refine zS rfl (q_loadEl rfl rfl rfl (stA (by assumption)) (by intro hc; omega)) ?_
   refine sw_step rfl rfl rfl (q_callv hgc rfl rfl (.k rfl (.nil)) (fun _ w' hw => callq hw (hg (nth xs k) (nth_mem hk') w' (hR.cl hw)))) (nP ?_)
   refine cw_cond rfl (fun h2 => ?_) (fun h2 => ?_)
   · refine zr (zm rfl (za rfl (nP (cw_ret (post_blk_r (post_then_r (post_then_r (post_blk_r (post_then_r (post_ret1 rfl (resOk_tmp rfl) ?_))))))))))
     exact fun w' hw => ⟨by rw [idxP_at hk' hbe h2], hw⟩
   · refine cw_skip (post_blk (post_then (cw_region ?_)))
     refine zS rfl (q_add rfl rfl rfl (by intro hc; omega)) ?_
     refine zm rfl (sw_nil ?_)
     refine post_next (k + 1) (by exact .cons rfl (.cons rfl (.cons rfl (.cons rfl .nil)))) (fun _ h => h) ⟨by omega, fun j hj => ?_⟩ (by omega)
     by_cases hjk : j = k
     · rw [hjk]; exact h2
     · exact hbe j (by omega)
 · have hk' : k = xs.length := by simp only [decide_eq_false_iff_not] at h; omega
   subst hk'
   refine cw_exit (post_then_x (post_then_x (post_blk_eq (post_then (zr (za rfl (nP (cw_ret (post_ret1 rfl (resOk_tmp rfl) ?_)))))))))
   exact fun w' hw => ⟨by rw [idxP_none hbe], hw⟩
theorem xl_index (sv : Value) (xs : List XL) (g : FuncId) (cap : Array Value) (p : XL → Bool) (R : World → Prop) (w : World) (hs : Stb w [] (RdL sv xs)) (hR : Stb w [] R) (hgc : CanCall Tryz.prog g) (hg : PredL Tryz.prog g cap p R xs) :
   Calls Tryz.prog 189 #[sv, .func (.func g) #[] cap] w fun e w' => e = .returned (.int .i64 (idxP p xs)) ∧ Cl w [] [] w' := by
 have hL := rd_len hs.here
 refine calls_cw (vs := [_, _]) Tryz.func189 rfl Tryz.ntmps189 rfl (Cl.start0 w) (zr (za rfl (nP (cw_seq (cw_seq (cw_region (zm rfl ?_)))))))
 refine zS rfl (q_len rfl (.k rfl (.nil)) (stA (by assumption))) ?_
 refine zm rfl (nP (cw_block ?_))
 refine cw_loop (S := Nat) (fun k => [(0, [], sv), (1, [], .func (.func g) #[] cap), (7, [], .int .i64 xs.length), (8, [], .int .i64 k)]) (fun _ => Cl w [] []) (fun k => k ≤ xs.length ∧ ∀ j, j < k → p (nth xs j) = false) (fun k => xs.length - k) 0 ⟨by omega, fun j hj => by omega⟩ (by exact .cons rfl (.cons rfl (.cons rfl (.cons rfl .nil)))) (fun _ h => h) ?_
 rintro k ⟨hk, hbe⟩
 refine zr (zS rfl (q_lss rfl rfl rfl) (nP (cw_seq ?_)))
 refine cw_cond rfl (fun h => ?_) (fun h => ?_)
 · have hk' : k < xs.length := by simp only [decide_eq_true_eq] at h; omega
   refine sP (cw_seq (cw_block (zr (zm rfl (za rfl (nP (cw_seq (cw_region (zm rfl (zm rfl (zm rfl ?_)))))))))))
   refine zS rfl (q_indexN rfl rfl rfl (stA (by assumption)) (by intro hc; omega)) ?_
   refine zS rfl (q_loadEl rfl rfl rfl (stA (by assumption)) (by intro hc; omega)) ?_
   refine sw_step rfl rfl rfl (q_callv hgc rfl rfl (.k rfl (.nil)) (fun _ w' hw => callq hw (hg (nth xs k) (nth_mem hk') w' (hR.cl hw)))) (nP ?_)
   refine cw_cond rfl (fun h2 => ?_) (fun h2 => ?_)
   · refine zr (zm rfl (za rfl (nP (cw_ret (post_blk_r (post_then_r (post_then_r (post_blk_r (post_then_r (post_ret1 rfl (resOk_tmp rfl) ?_))))))))))
     exact fun w' hw => ⟨by rw [idxP_at hk' hbe h2], hw⟩
   · refine cw_skip (post_blk (post_then (cw_region ?_)))
     refine zS rfl (q_add rfl rfl rfl (by intro hc; omega)) ?_
     refine zm rfl (sw_nil ?_)
     refine post_next (k + 1) (by exact .cons rfl (.cons rfl (.cons rfl (.cons rfl .nil)))) (fun _ h => h) ⟨by omega, fun j hj => ?_⟩ (by omega)
     by_cases hjk : j = k
     · rw [hjk]; exact h2
     · exact hbe j (by omega)
 · have hk' : k = xs.length := by simp only [decide_eq_false_iff_not] at h; omega
   subst hk'
   refine cw_exit (post_then_x (post_then_x (post_blk_eq (post_then (zr (za rfl (nP (cw_ret (post_ret1 rfl (resOk_tmp rfl) ?_)))))))))
   exact fun w' hw => ⟨by rw [idxP_none hbe], hw⟩
def riseB {α : Type} [Inhabited α] (c : α → α → Int) (xs : List α) : Bool := (List.range (xs.length - 1)).all fun i => decide (c (nth xs i) (nth xs (i + 1)) < 0)
theorem riseB_no {α : Type} [Inhabited α] {c : α → α → Int} {xs : List α} {k : Nat} (h0 : 1 ≤ k) (hk : k < xs.length) (h : ¬ c (nth xs (k - 1)) (nth xs k) < 0) : riseB c xs = false := by
 unfold riseB
 rw [List.all_eq_false]
 refine ⟨k - 1, List.mem_range.2 (by omega), ?_⟩
 rw [show k - 1 + 1 = k by omega]
 simp [h]
theorem riseB_yes {α : Type} [Inhabited α] {c : α → α → Int} {xs : List α} : riseB c xs = true ↔ ∀ k, 1 ≤ k → k < xs.length → c (nth xs (k - 1)) (nth xs k) < 0 := by
 unfold riseB
 rw [List.all_eq_true]
 constructor
 · intro h k h0 hk
   have := h (k - 1) (List.mem_range.2 (by omega))
   rw [show k - 1 + 1 = k by omega] at this
   simpa using this
 · intro h i hi
   rw [List.mem_range] at hi
   have := h (i + 1) (by omega) (by omega)
   rw [Nat.add_sub_cancel] at this
   simpa using this
def CmpL (P : Program) {α : Type} [Enc α] (g : FuncId) (cap : Array Value) (c : α → α → Int) (R : World → Prop) (xs : List α) : Prop := ∀ x ∈ xs, ∀ y ∈ xs, ∀ w, R w → Calls P g ([val x, val y].toArray ++ cap) w fun e w' => e = .returned (.int .i64 (c x y)) ∧ Cl w [] [] w'
theorem riseLet_spec (sv : Value) (xs : List Let) (g : FuncId) (cap : Array Value) (c : Let → Let → Int) (R : World → Prop) (w : World) (hs : Stb w [] (RdL sv xs)) (hR : Stb w [] R) (hgc : CanCall Tryz.prog g) (hg : CmpL Tryz.prog g cap c R xs) :
   Calls Tryz.prog 73 #[sv, .func (.func g) #[] cap] w fun e w' => e = .returned (.bool (riseB c xs)) ∧ Cl w [] [] w' := by
 have hL := rd_len hs.here
 refine calls_cw (vs := [_, _]) Tryz.func73 rfl Tryz.ntmps73 rfl (Cl.start0 w) (zr (za rfl (nP (cw_seq (cw_seq (cw_region (za rfl (sw_nil (post_then (cw_block ?_))))))))))
 refine cw_loop (S := Nat) (fun k => [(0, [], sv), (1, [], .func (.func g) #[] cap), (5, [], .int .i64 k)]) (fun _ => Cl w [] []) (fun k => 1 ≤ k ∧ ∀ j, 1 ≤ j → j < k → j < xs.length → c (nth xs (j - 1)) (nth xs j) < 0) (fun k => xs.length - k) 1 ⟨by omega, fun j hj => by omega⟩ (by exact .cons rfl (.cons rfl (.cons rfl .nil))) (fun _ h => h) ?_
 rintro k ⟨hk, hbe⟩
 refine cw_seq (zr (zm rfl (zm rfl ?_)))
 refine zS rfl (q_len rfl (.k rfl (.nil)) (stA (by assumption))) ?_
 refine zS rfl (q_lss rfl rfl rfl) (nP ?_)
 refine cw_cond rfl (fun h => ?_) (fun h => ?_)
 · have hk' : k < xs.length := by simp only [decide_eq_true_eq] at h; omega
   have e1 : ((k : Int) - 1).toNat = k - 1 := by omega
   refine sP (cw_seq (cw_block (cw_seq ?_)))
   refine cw_region_q mixed_Tryz (by kernel_rfl) ?_
   refine zw rfl (zw rfl (zw rfl ?_))
   refine zq rfl (q_sub rfl rfl rfl (by intro hc; omega)) ?_
   refine zq rfl (q_index rfl rfl rfl (stA (by assumption)) (by intro hc; omega)) ?_
   refine zq rfl (q_loadEl rfl rfl rfl (stA (by assumption)) (by intro hc; omega)) ?_
   refine zw rfl (zw rfl ?_)
   refine zq rfl (q_indexN rfl rfl rfl (stA (by assumption)) (by intro hc; omega)) ?_
   refine zq rfl (q_loadEl rfl rfl rfl (stA (by assumption)) (by intro hc; omega)) ?_
   refine qw_step rfl rfl rfl (q_callv hgc rfl rfl (.k rfl (.k rfl (.nil))) (fun _ w' hw => callq hw (hg (nth xs ((k : Int) - 1).toNat) (by rw [e1]; exact nth_mem (by omega)) (nth xs k) (nth_mem hk') w' (hR.cl hw)))) ?_
   refine zq rfl (q_geq rfl rfl rfl) (qw_end (post_then ?_))
   rw [e1]
   refine cw_cond rfl (fun h2 => ?_) (fun h2 => ?_)
   · have h3 : riseB c xs = false := riseB_no hk hk' (by simp at h2; omega)
     refine zr (za rfl (nP (cw_ret (post_blk_r (post_then_r (post_then_r (post_blk_r (post_then_r (post_ret1 rfl (resOk_tmp rfl) ?_)))))))))
     exact fun w' hw => ⟨by rw [h3], hw⟩
   · refine cw_skip (post_blk (post_then (cw_region (zm rfl ?_))))
     refine zS rfl (q_add rfl rfl rfl (by intro hc; omega)) ?_
     refine za rfl (sw_nil ?_)
     refine post_next (k + 1) (by exact .cons rfl (.cons rfl (.cons rfl .nil))) (fun _ h => h) ⟨by omega, fun j hj hj2 hj3 => ?_⟩ (by omega)
     by_cases hjk : j = k
     · rw [hjk]; simp at h2; omega
     · exact hbe j hj (by omega) hj3
 · have hk' : xs.length ≤ k := by simp only [decide_eq_false_iff_not] at h; omega
   have h3 : riseB c xs = true := riseB_yes.2 fun j h1 h2 => hbe j h1 (by omega) h2
   refine cw_exit (post_then_x (post_then_x (post_blk_eq (post_then (zr (za rfl (nP (cw_ret (post_ret1 rfl (resOk_tmp rfl) ?_)))))))))
   exact fun w' hw => ⟨by rw [h3], hw⟩
theorem riseCond_spec (sv : Value) (xs : List Cond) (g : FuncId) (cap : Array Value) (c : Cond → Cond → Int) (R : World → Prop) (w : World) (hs : Stb w [] (RdL sv xs)) (hR : Stb w [] R) (hgc : CanCall Tryz.prog g) (hg : CmpL Tryz.prog g cap c R xs) :
   Calls Tryz.prog 122 #[sv, .func (.func g) #[] cap] w fun e w' => e = .returned (.bool (riseB c xs)) ∧ Cl w [] [] w' := by
 have hL := rd_len hs.here
 refine calls_cw (vs := [_, _]) Tryz.func122 rfl Tryz.ntmps122 rfl (Cl.start0 w) (zr (za rfl (nP (cw_seq (cw_seq (cw_region (za rfl (sw_nil (post_then (cw_block ?_))))))))))
 refine cw_loop (S := Nat) (fun k => [(0, [], sv), (1, [], .func (.func g) #[] cap), (5, [], .int .i64 k)]) (fun _ => Cl w [] []) (fun k => 1 ≤ k ∧ ∀ j, 1 ≤ j → j < k → j < xs.length → c (nth xs (j - 1)) (nth xs j) < 0) (fun k => xs.length - k) 1 ⟨by omega, fun j hj => by omega⟩ (by exact .cons rfl (.cons rfl (.cons rfl .nil))) (fun _ h => h) ?_
 rintro k ⟨hk, hbe⟩
 refine cw_seq (zr (zm rfl (zm rfl ?_)))
 refine zS rfl (q_len rfl (.k rfl (.nil)) (stA (by assumption))) ?_
 refine zS rfl (q_lss rfl rfl rfl) (nP ?_)
 refine cw_cond rfl (fun h => ?_) (fun h => ?_)
 · have hk' : k < xs.length := by simp only [decide_eq_true_eq] at h; omega
   have e1 : ((k : Int) - 1).toNat = k - 1 := by omega
   refine sP (cw_seq (cw_block (cw_seq ?_)))
   refine cw_region_q mixed_Tryz (by kernel_rfl) ?_
   refine zw rfl (zw rfl (zw rfl ?_))
   refine zq rfl (q_sub rfl rfl rfl (by intro hc; omega)) ?_
   refine zq rfl (q_index rfl rfl rfl (stA (by assumption)) (by intro hc; omega)) ?_
   refine zq rfl (q_loadEl rfl rfl rfl (stA (by assumption)) (by intro hc; omega)) ?_
   refine zw rfl (zw rfl ?_)
   refine zq rfl (q_indexN rfl rfl rfl (stA (by assumption)) (by intro hc; omega)) ?_
   refine zq rfl (q_loadEl rfl rfl rfl (stA (by assumption)) (by intro hc; omega)) ?_
   refine qw_step rfl rfl rfl (q_callv hgc rfl rfl (.k rfl (.k rfl (.nil))) (fun _ w' hw => callq hw (hg (nth xs ((k : Int) - 1).toNat) (by rw [e1]; exact nth_mem (by omega)) (nth xs k) (nth_mem hk') w' (hR.cl hw)))) ?_
   refine zq rfl (q_geq rfl rfl rfl) (qw_end (post_then ?_))
   rw [e1]
   refine cw_cond rfl (fun h2 => ?_) (fun h2 => ?_)
   · have h3 : riseB c xs = false := riseB_no hk hk' (by simp at h2; omega)
     refine zr (za rfl (nP (cw_ret (post_blk_r (post_then_r (post_then_r (post_blk_r (post_then_r (post_ret1 rfl (resOk_tmp rfl) ?_)))))))))
     exact fun w' hw => ⟨by rw [h3], hw⟩
   · refine cw_skip (post_blk (post_then (cw_region (zm rfl ?_))))
     refine zS rfl (q_add rfl rfl rfl (by intro hc; omega)) ?_
     refine za rfl (sw_nil ?_)
     refine post_next (k + 1) (by exact .cons rfl (.cons rfl (.cons rfl .nil))) (fun _ h => h) ⟨by omega, fun j hj hj2 hj3 => ?_⟩ (by omega)
     by_cases hjk : j = k
     · rw [hjk]; simp at h2; omega
     · exact hbe j hj (by omega) hj3
 · have hk' : xs.length ≤ k := by simp only [decide_eq_false_iff_not] at h; omega
   have h3 : riseB c xs = true := riseB_yes.2 fun j h1 h2 => hbe j h1 (by omega) h2
   refine cw_exit (post_then_x (post_then_x (post_blk_eq (post_then (zr (za rfl (nP (cw_ret (post_ret1 rfl (resOk_tmp rfl) ?_)))))))))
   exact fun w' hw => ⟨by rw [h3], hw⟩
theorem riseFgn_spec (sv : Value) (xs : List Fgn) (g : FuncId) (cap : Array Value) (c : Fgn → Fgn → Int) (R : World → Prop) (w : World) (hs : Stb w [] (RdL sv xs)) (hR : Stb w [] R) (hgc : CanCall Tryz.prog g) (hg : CmpL Tryz.prog g cap c R xs) :
   Calls Tryz.prog 127 #[sv, .func (.func g) #[] cap] w fun e w' => e = .returned (.bool (riseB c xs)) ∧ Cl w [] [] w' := by
 have hL := rd_len hs.here
 refine calls_cw (vs := [_, _]) Tryz.func127 rfl Tryz.ntmps127 rfl (Cl.start0 w) (zr (za rfl (nP (cw_seq (cw_seq (cw_region (za rfl (sw_nil (post_then (cw_block ?_))))))))))
 refine cw_loop (S := Nat) (fun k => [(0, [], sv), (1, [], .func (.func g) #[] cap), (5, [], .int .i64 k)]) (fun _ => Cl w [] []) (fun k => 1 ≤ k ∧ ∀ j, 1 ≤ j → j < k → j < xs.length → c (nth xs (j - 1)) (nth xs j) < 0) (fun k => xs.length - k) 1 ⟨by omega, fun j hj => by omega⟩ (by exact .cons rfl (.cons rfl (.cons rfl .nil))) (fun _ h => h) ?_
 rintro k ⟨hk, hbe⟩
 refine cw_seq (zr (zm rfl (zm rfl ?_)))
 refine zS rfl (q_len rfl (.k rfl (.nil)) (stA (by assumption))) ?_
 refine zS rfl (q_lss rfl rfl rfl) (nP ?_)
 refine cw_cond rfl (fun h => ?_) (fun h => ?_)
 · have hk' : k < xs.length := by simp only [decide_eq_true_eq] at h; omega
   have e1 : ((k : Int) - 1).toNat = k - 1 := by omega
   refine sP (cw_seq (cw_block (cw_seq ?_)))
   refine cw_region_q mixed_Tryz (by kernel_rfl) ?_
   refine zw rfl (zw rfl (zw rfl ?_))
   refine zq rfl (q_sub rfl rfl rfl (by intro hc; omega)) ?_
   refine zq rfl (q_index rfl rfl rfl (stA (by assumption)) (by intro hc; omega)) ?_
   refine zq rfl (q_loadEl rfl rfl rfl (stA (by assumption)) (by intro hc; omega)) ?_
   refine zw rfl (zw rfl ?_)
   refine zq rfl (q_indexN rfl rfl rfl (stA (by assumption)) (by intro hc; omega)) ?_
   refine zq rfl (q_loadEl rfl rfl rfl (stA (by assumption)) (by intro hc; omega)) ?_
   refine qw_step rfl rfl rfl (q_callv hgc rfl rfl (.k rfl (.k rfl (.nil))) (fun _ w' hw => callq hw (hg (nth xs ((k : Int) - 1).toNat) (by rw [e1]; exact nth_mem (by omega)) (nth xs k) (nth_mem hk') w' (hR.cl hw)))) ?_
   refine zq rfl (q_geq rfl rfl rfl) (qw_end (post_then ?_))
   rw [e1]
   refine cw_cond rfl (fun h2 => ?_) (fun h2 => ?_)
   · have h3 : riseB c xs = false := riseB_no hk hk' (by simp at h2; omega)
     refine zr (za rfl (nP (cw_ret (post_blk_r (post_then_r (post_then_r (post_blk_r (post_then_r (post_ret1 rfl (resOk_tmp rfl) ?_)))))))))
     exact fun w' hw => ⟨by rw [h3], hw⟩
   · refine cw_skip (post_blk (post_then (cw_region (zm rfl ?_))))
     refine zS rfl (q_add rfl rfl rfl (by intro hc; omega)) ?_
     refine za rfl (sw_nil ?_)
     refine post_next (k + 1) (by exact .cons rfl (.cons rfl (.cons rfl .nil))) (fun _ h => h) ⟨by omega, fun j hj hj2 hj3 => ?_⟩ (by omega)
     by_cases hjk : j = k
     · rw [hjk]; simp at h2; omega
     · exact hbe j hj (by omega) hj3
 · have hk' : xs.length ≤ k := by simp only [decide_eq_false_iff_not] at h; omega
   have h3 : riseB c xs = true := riseB_yes.2 fun j h1 h2 => hbe j h1 (by omega) h2
   refine cw_exit (post_then_x (post_then_x (post_blk_eq (post_then (zr (za rfl (nP (cw_ret (post_ret1 rfl (resOk_tmp rfl) ?_)))))))))
   exact fun w' hw => ⟨by rw [h3], hw⟩
theorem riseSp_spec (sv : Value) (xs : List Sp) (g : FuncId) (cap : Array Value) (c : Sp → Sp → Int) (R : World → Prop) (w : World) (hs : Stb w [] (RdL sv xs)) (hR : Stb w [] R) (hgc : CanCall Tryz.prog g) (hg : CmpL Tryz.prog g cap c R xs) :
   Calls Tryz.prog 133 #[sv, .func (.func g) #[] cap] w fun e w' => e = .returned (.bool (riseB c xs)) ∧ Cl w [] [] w' := by
 have hL := rd_len hs.here
 refine calls_cw (vs := [_, _]) Tryz.func133 rfl Tryz.ntmps133 rfl (Cl.start0 w) (zr (za rfl (nP (cw_seq (cw_seq (cw_region (za rfl (sw_nil (post_then (cw_block ?_))))))))))
 refine cw_loop (S := Nat) (fun k => [(0, [], sv), (1, [], .func (.func g) #[] cap), (5, [], .int .i64 k)]) (fun _ => Cl w [] []) (fun k => 1 ≤ k ∧ ∀ j, 1 ≤ j → j < k → j < xs.length → c (nth xs (j - 1)) (nth xs j) < 0) (fun k => xs.length - k) 1 ⟨by omega, fun j hj => by omega⟩ (by exact .cons rfl (.cons rfl (.cons rfl .nil))) (fun _ h => h) ?_
 rintro k ⟨hk, hbe⟩
 refine cw_seq (zr (zm rfl (zm rfl ?_)))
 refine zS rfl (q_len rfl (.k rfl (.nil)) (stA (by assumption))) ?_
 refine zS rfl (q_lss rfl rfl rfl) (nP ?_)
 refine cw_cond rfl (fun h => ?_) (fun h => ?_)
 · have hk' : k < xs.length := by simp only [decide_eq_true_eq] at h; omega
   have e1 : ((k : Int) - 1).toNat = k - 1 := by omega
   refine sP (cw_seq (cw_block (cw_seq ?_)))
   refine cw_region_q mixed_Tryz (by kernel_rfl) ?_
   refine zw rfl (zw rfl (zw rfl ?_))
   refine zq rfl (q_sub rfl rfl rfl (by intro hc; omega)) ?_
   refine zq rfl (q_index rfl rfl rfl (stA (by assumption)) (by intro hc; omega)) ?_
   refine zq rfl (q_loadEl rfl rfl rfl (stA (by assumption)) (by intro hc; omega)) ?_
   refine zw rfl (zw rfl ?_)
   refine zq rfl (q_indexN rfl rfl rfl (stA (by assumption)) (by intro hc; omega)) ?_
   refine zq rfl (q_loadEl rfl rfl rfl (stA (by assumption)) (by intro hc; omega)) ?_
   refine qw_step rfl rfl rfl (q_callv hgc rfl rfl (.k rfl (.k rfl (.nil))) (fun _ w' hw => callq hw (hg (nth xs ((k : Int) - 1).toNat) (by rw [e1]; exact nth_mem (by omega)) (nth xs k) (nth_mem hk') w' (hR.cl hw)))) ?_
   refine zq rfl (q_geq rfl rfl rfl) (qw_end (post_then ?_))
   rw [e1]
   refine cw_cond rfl (fun h2 => ?_) (fun h2 => ?_)
   · have h3 : riseB c xs = false := riseB_no hk hk' (by simp at h2; omega)
     refine zr (za rfl (nP (cw_ret (post_blk_r (post_then_r (post_then_r (post_blk_r (post_then_r (post_ret1 rfl (resOk_tmp rfl) ?_)))))))))
     exact fun w' hw => ⟨by rw [h3], hw⟩
   · refine cw_skip (post_blk (post_then (cw_region (zm rfl ?_))))
     refine zS rfl (q_add rfl rfl rfl (by intro hc; omega)) ?_
     refine za rfl (sw_nil ?_)
     refine post_next (k + 1) (by exact .cons rfl (.cons rfl (.cons rfl .nil))) (fun _ h => h) ⟨by omega, fun j hj hj2 hj3 => ?_⟩ (by omega)
     by_cases hjk : j = k
     · rw [hjk]; simp at h2; omega
     · exact hbe j hj (by omega) hj3
 · have hk' : xs.length ≤ k := by simp only [decide_eq_false_iff_not] at h; omega
   have h3 : riseB c xs = true := riseB_yes.2 fun j h1 h2 => hbe j h1 (by omega) h2
   refine cw_exit (post_then_x (post_then_x (post_blk_eq (post_then (zr (za rfl (nP (cw_ret (post_ret1 rfl (resOk_tmp rfl) ?_)))))))))
   exact fun w' hw => ⟨by rw [h3], hw⟩
theorem risePr_spec (sv : Value) (xs : List Pr) (g : FuncId) (cap : Array Value) (c : Pr → Pr → Int) (R : World → Prop) (w : World) (hs : Stb w [] (RdL sv xs)) (hR : Stb w [] R) (hgc : CanCall Tryz.prog g) (hg : CmpL Tryz.prog g cap c R xs) :
   Calls Tryz.prog 104 #[sv, .func (.func g) #[] cap] w fun e w' => e = .returned (.bool (riseB c xs)) ∧ Cl w [] [] w' := by
 have hL := rd_len hs.here
 refine calls_cw (vs := [_, _]) Tryz.func104 rfl Tryz.ntmps104 rfl (Cl.start0 w) (zr (za rfl (nP (cw_seq (cw_seq (cw_region (za rfl (sw_nil (post_then (cw_block ?_))))))))))
 refine cw_loop (S := Nat) (fun k => [(0, [], sv), (1, [], .func (.func g) #[] cap), (5, [], .int .i64 k)]) (fun _ => Cl w [] []) (fun k => 1 ≤ k ∧ ∀ j, 1 ≤ j → j < k → j < xs.length → c (nth xs (j - 1)) (nth xs j) < 0) (fun k => xs.length - k) 1 ⟨by omega, fun j hj => by omega⟩ (by exact .cons rfl (.cons rfl (.cons rfl .nil))) (fun _ h => h) ?_
 rintro k ⟨hk, hbe⟩
 refine cw_seq (zr (zm rfl (zm rfl ?_)))
 refine zS rfl (q_len rfl (.k rfl (.nil)) (stA (by assumption))) ?_
 refine zS rfl (q_lss rfl rfl rfl) (nP ?_)
 refine cw_cond rfl (fun h => ?_) (fun h => ?_)
 · have hk' : k < xs.length := by simp only [decide_eq_true_eq] at h; omega
   have e1 : ((k : Int) - 1).toNat = k - 1 := by omega
   refine sP (cw_seq (cw_block (cw_seq ?_)))
   refine cw_region_q mixed_Tryz (by kernel_rfl) ?_
   refine zw rfl (zw rfl (zw rfl ?_))
   refine zq rfl (q_sub rfl rfl rfl (by intro hc; omega)) ?_
   refine zq rfl (q_index rfl rfl rfl (stA (by assumption)) (by intro hc; omega)) ?_
   refine zq rfl (q_loadEl rfl rfl rfl (stA (by assumption)) (by intro hc; omega)) ?_
   refine zw rfl (zw rfl ?_)
   refine zq rfl (q_indexN rfl rfl rfl (stA (by assumption)) (by intro hc; omega)) ?_
   refine zq rfl (q_loadEl rfl rfl rfl (stA (by assumption)) (by intro hc; omega)) ?_
   refine qw_step rfl rfl rfl (q_callv hgc rfl rfl (.k rfl (.k rfl (.nil))) (fun _ w' hw => callq hw (hg (nth xs ((k : Int) - 1).toNat) (by rw [e1]; exact nth_mem (by omega)) (nth xs k) (nth_mem hk') w' (hR.cl hw)))) ?_
   refine zq rfl (q_geq rfl rfl rfl) (qw_end (post_then ?_))
   rw [e1]
   refine cw_cond rfl (fun h2 => ?_) (fun h2 => ?_)
   · have h3 : riseB c xs = false := riseB_no hk hk' (by simp at h2; omega)
     refine zr (za rfl (nP (cw_ret (post_blk_r (post_then_r (post_then_r (post_blk_r (post_then_r (post_ret1 rfl (resOk_tmp rfl) ?_)))))))))
     exact fun w' hw => ⟨by rw [h3], hw⟩
   · refine cw_skip (post_blk (post_then (cw_region (zm rfl ?_))))
     refine zS rfl (q_add rfl rfl rfl (by intro hc; omega)) ?_
     refine za rfl (sw_nil ?_)
     refine post_next (k + 1) (by exact .cons rfl (.cons rfl (.cons rfl .nil))) (fun _ h => h) ⟨by omega, fun j hj hj2 hj3 => ?_⟩ (by omega)
     by_cases hjk : j = k
     · rw [hjk]; simp at h2; omega
     · exact hbe j hj (by omega) hj3
 · have hk' : xs.length ≤ k := by simp only [decide_eq_false_iff_not] at h; omega
   have h3 : riseB c xs = true := riseB_yes.2 fun j h1 h2 => hbe j h1 (by omega) h2
   refine cw_exit (post_then_x (post_then_x (post_blk_eq (post_then (zr (za rfl (nP (cw_ret (post_ret1 rfl (resOk_tmp rfl) ?_)))))))))
   exact fun w' hw => ⟨by rw [h3], hw⟩
end Go.Proofs.YtkmbliojafefdaaGreatDoor

set_option autoImplicit false
set_option maxRecDepth 100000
namespace Go.Proofs.YtkmbliojafefdaaGreatDoor
open Go.Sx
open Enc (enc val)
def lowB {α : Type} (c : α → Int) (xs : List α) : Nat := (xs.takeWhile fun x => decide (c x < 0)).length
theorem lowB_at {α : Type} [Inhabited α] {c : α → Int} : ∀ {xs : List α} {k : Nat}, k ≤ xs.length → (∀ i, i < k → c (nth xs i) < 0) → (k < xs.length → ¬ c (nth xs k) < 0) → lowB c xs = k
 | [], k, h, _, _ => by simp at h; simp [lowB, h]
 | x :: xs, 0, _, _, h => by
   have : ¬ c x < 0 := h (by simp)
   unfold lowB
   rw [List.takeWhile_cons_of_neg (by simpa using this)]; rfl
 | x :: xs, k + 1, h, h1, h2 => by
   have h3 : c x < 0 := h1 0 (by omega)
   have ih := lowB_at (c := c) (xs := xs) (k := k) (by simpa using h) (fun i hi => h1 (i + 1) (by omega)) (fun hk => h2 (by simpa using hk))
   unfold lowB at ih ⊢
   rw [List.takeWhile_cons_of_pos (by simpa using h3), List.length_cons, ih]
def Halves {α : Type} [Inhabited α] (c : α → Int) (xs : List α) : Prop := ∀ i j, i < j → j < xs.length → c (nth xs j) < 0 → c (nth xs i) < 0
def CmpT (P : Program) {α : Type} [Enc α] (g : FuncId) (cap : Array Value) (tv : Value) (c : α → Int) (R : World → Prop) (xs : List α) : Prop := ∀ x ∈ xs, ∀ w, R w → Calls P g ([val x, tv].toArray ++ cap) w fun e w' => e = .returned (.int .i64 (c x)) ∧ Cl w [] [] w'
theorem half_wrap {i j : Nat} (h : i + j < 18446744073709551616) : IntKind.i64.wrap (IntKind.u64.wrap (IntKind.i64.wrap ((i : Int) + j)) / 2 ^ (1 : Int).toNat) = (((i + j) / 2 : Nat) : Int) := by
 simp [IntKind.wrap, IntKind.bits, IntKind.signed]
 omega
section
variable {P : Program} {n : Fr} {E : Env} {o : Oper} {C : World → Prop} {cs : List Bool}
theorem q_convE {s t : TypeId} {x : Operand} {cx : List Bool} {k k' : IntKind} {a r : Int} (he : k'.wrap a = r) (ho : o.op = .convert s t x) (hx : evl E x = some (cx, .int k a)) [hs : Sub cx cs] [h1 : IntT P s k] [h2 : IntT P t k'] : OpR P n E C cs o (.int k' r) := by
 subst he; exact q_conv ho hx
end
theorem searchPr_spec (sv : Value) (xs : List Pr) (t : Int) (g : FuncId) (cap : Array Value) (c : Pr → Int) (R : World → Prop) (w : World) (hs : Stb w [] (RdL sv xs)) (hR : Stb w [] R) (hgc : CanCall Tryz.prog g) (hg : CmpT Tryz.prog g cap (.int .i32 t) c R xs) (hm : Halves c xs) :
   Calls Tryz.prog 113 #[sv, .int .i32 t, .func (.func g) #[] cap] w fun e w' => e = .returned (.tuple #[.int .i64 (lowB c xs), .bool (decide (lowB c xs < xs.length ∧ c (nth xs (lowB c xs)) = 0))]) ∧ Cl w [] [] w' := by
 have hL := rd_len hs.here
 refine calls_cw (vs := [_, _, _]) Tryz.func113 rfl Tryz.ntmps113 rfl (Cl.start0 w) (zr (za rfl (za rfl (nP (cw_seq (cw_region (zm rfl ?_)))))))
 refine zS rfl (q_len rfl (.k rfl (.nil)) (stA (by assumption))) ?_
 refine za rfl (nP (zr (zm rfl (za rfl (za rfl (sw_nil (post_then (cw_seq (cw_block ?_)))))))))
 refine cw_loop (S := Nat × Nat) (fun y => [(0, [], sv), (1, [], .int .i32 t), (2, [], .func (.func g) #[] cap), (8, [], .int .i64 xs.length), (9, [], .int .i64 y.1), (10, [], .int .i64 y.2)]) (fun _ => Cl w [] []) (fun y => y.1 ≤ y.2 ∧ y.2 ≤ xs.length ∧ (∀ i, i < y.1 → c (nth xs i) < 0) ∧ ∀ i, y.2 ≤ i → i < xs.length → ¬ c (nth xs i) < 0) (fun y => y.2 - y.1) (0, xs.length) ⟨by simp, by simp, fun i hi => by simp at hi, fun i h1 h2 => by simp at h1; omega⟩ (by exact .cons rfl (.cons rfl (.cons rfl (.cons rfl (.cons rfl (.cons rfl .nil)))))) (fun _ h => h) ?_
 rintro ⟨i, j⟩ ⟨hij, hj, hlo, hhi⟩
 dsimp only at hij hj hlo hhi ⊢
 refine cw_seq (zr (zm rfl (zm rfl (zS rfl (q_lss rfl rfl rfl) (nP ?_)))))
 refine cw_cond rfl (fun h => ?_) (fun h => ?_)
 · have hlt : i < j := by simp at h; omega
   have e1 := half_wrap (i := i) (j := j) (by omega)
   have hk : (i + j) / 2 < xs.length := by omega
   refine sP (cw_block (zr (zm rfl (zm rfl (zS rfl (q_add_w rfl rfl rfl) (zS rfl (q_conv rfl rfl) ?_))))))
   refine zS rfl (q_shr rfl rfl rfl (by exact fun _ => ⟨by decide, by decide⟩)) ?_
   refine zS rfl (q_convE e1 rfl rfl) (za rfl (nP (zr (zm rfl (zm rfl (zm rfl ?_))))))
   refine zS rfl (q_indexN rfl rfl rfl (stA (by assumption)) (by intro hc; omega)) ?_
   refine zS rfl (q_loadEl rfl rfl rfl (stA (by assumption)) (by intro hc; omega)) ?_
   refine zm rfl (sw_step rfl rfl rfl (q_callv hgc rfl rfl (.k rfl (.k rfl (.nil))) (fun _ w' hw => callq hw (hg (nth xs ((i + j) / 2)) (nth_mem hk) w' (hR.cl hw)))) (zS rfl (q_lss rfl rfl rfl) (nP ?_)))
   refine cw_cond rfl (fun h2 => ?_) (fun h2 => ?_)
   · refine cw_region (zm rfl ?_)
     refine zS rfl (q_add rfl rfl rfl (by intro hc; omega)) ?_
     refine za rfl (sw_nil (post_blk ?_))
     refine post_next ((i + j) / 2 + 1, j) (by exact .cons rfl (.cons rfl (.cons rfl (.cons rfl (.cons rfl (.cons rfl .nil)))))) (fun _ h => h) ⟨by simp only; omega, by simp only; omega, fun a ha => ?_, hhi⟩ (by simp only; omega)
     simp at h2 ha
     rcases Nat.lt_or_ge a ((i + j) / 2) with h3 | h3
     · exact hm a _ h3 hk h2
     · have : a = (i + j) / 2 := by omega
       rw [this]; exact h2
   · refine cw_region (zm rfl (za rfl (sw_nil (post_blk ?_))))
     refine post_next (i, (i + j) / 2) (by exact .cons rfl (.cons rfl (.cons rfl (.cons rfl (.cons rfl (.cons rfl .nil)))))) (fun _ h => h) ⟨by simp only; omega, by simp only; omega, hlo, fun a ha ha2 => ?_⟩ (by simp only; omega)
     simp at h2 ha
     rcases Nat.lt_or_ge ((i + j) / 2) a with h3 | h3
     · intro h4
       have := hm _ _ h3 ha2 h4
       omega
     · have : a = (i + j) / 2 := by omega
       rw [this]; omega
 · have hlt : i = j := by simp at h; omega
   subst hlt
   have e2 : lowB c xs = i := lowB_at hj hlo fun h1 => hhi i (Nat.le_refl _) h1
   refine cw_exit (post_then_x (post_then_x (post_blk_eq (post_then (zr (zm rfl (zm rfl (zm rfl (zS rfl (q_lss rfl rfl rfl) (zm rfl (zm rfl (zm rfl (zm rfl ?_)))))))))))))
   refine zS rfl (q_indexN rfl rfl rfl (stA (by assumption)) (by intro hc; (simp only [AllT.iff, List.all_cons, List.all_nil, id, Bool.and_eq_true, Bool.not_eq_true', decide_eq_true_eq, decide_eq_false_iff_not, and_true] at hc; omega))) ?_
   refine zS rfl (q_loadEl rfl rfl rfl (stA (by assumption)) (by intro hc; (simp only [AllT.iff, List.all_cons, List.all_nil, id, Bool.and_eq_true, Bool.not_eq_true', decide_eq_true_eq, decide_eq_false_iff_not, and_true] at hc; omega))) ?_
   refine zm rfl ?_
   refine sw_step rfl rfl rfl (q_callv hgc rfl rfl (.k rfl (.k rfl (.nil))) (fun hc w' hw => callq hw (hg (nth xs i) (nth_mem (by simp [AllT] at hc; omega)) w' (hR.cl hw)))) ?_
   refine zS rfl (q_eql rfl rfl rfl) (zS rfl (q_and2 rfl rfl rfl) (za rfl (za rfl (nP (cw_ret (post_ret2 rfl (resOk_tmp rfl) (resOk_tmp rfl) ?_))))))
   refine fun w' hw => ⟨?_, hw⟩
   rw [e2]
   congr 6
   rw [Bool.eq_iff_iff]; simp
theorem searchFgn_spec (sv : Value) (xs : List Fgn) (t : ByteArray) (g : FuncId) (cap : Array Value) (c : Fgn → Int) (R : World → Prop) (w : World) (hs : Stb w [] (RdL sv xs)) (hR : Stb w [] R) (hgc : CanCall Tryz.prog g) (hg : CmpT Tryz.prog g cap (.string t) c R xs) (hm : Halves c xs) :
   Calls Tryz.prog 92 #[sv, .string t, .func (.func g) #[] cap] w fun e w' => e = .returned (.tuple #[.int .i64 (lowB c xs), .bool (decide (lowB c xs < xs.length ∧ c (nth xs (lowB c xs)) = 0))]) ∧ Cl w [] [] w' := by
 have hL := rd_len hs.here
 refine calls_cw (vs := [_, _, _]) Tryz.func92 rfl Tryz.ntmps92 rfl (Cl.start0 w) (zr (za rfl (za rfl (nP (cw_seq (cw_region (zm rfl ?_)))))))
 refine zS rfl (q_len rfl (.k rfl (.nil)) (stA (by assumption))) ?_
 refine za rfl (nP (zr (zm rfl (za rfl (za rfl (sw_nil (post_then (cw_seq (cw_block ?_)))))))))
 refine cw_loop (S := Nat × Nat) (fun y => [(0, [], sv), (1, [], .string t), (2, [], .func (.func g) #[] cap), (8, [], .int .i64 xs.length), (9, [], .int .i64 y.1), (10, [], .int .i64 y.2)]) (fun _ => Cl w [] []) (fun y => y.1 ≤ y.2 ∧ y.2 ≤ xs.length ∧ (∀ i, i < y.1 → c (nth xs i) < 0) ∧ ∀ i, y.2 ≤ i → i < xs.length → ¬ c (nth xs i) < 0) (fun y => y.2 - y.1) (0, xs.length) ⟨by simp, by simp, fun i hi => by simp at hi, fun i h1 h2 => by simp at h1; omega⟩ (by exact .cons rfl (.cons rfl (.cons rfl (.cons rfl (.cons rfl (.cons rfl .nil)))))) (fun _ h => h) ?_
 rintro ⟨i, j⟩ ⟨hij, hj, hlo, hhi⟩
 dsimp only at hij hj hlo hhi ⊢
 refine cw_seq (zr (zm rfl (zm rfl (zS rfl (q_lss rfl rfl rfl) (nP ?_)))))
 refine cw_cond rfl (fun h => ?_) (fun h => ?_)
 · have hlt : i < j := by simp at h; omega
   have e1 := half_wrap (i := i) (j := j) (by omega)
   have hk : (i + j) / 2 < xs.length := by omega
   refine sP (cw_block (zr (zm rfl (zm rfl (zS rfl (q_add_w rfl rfl rfl) (zS rfl (q_conv rfl rfl) ?_))))))
   refine zS rfl (q_shr rfl rfl rfl (by exact fun _ => ⟨by decide, by decide⟩)) ?_
   refine zS rfl (q_convE e1 rfl rfl) (za rfl (nP (zr (zm rfl (zm rfl (zm rfl ?_))))))
   refine zS rfl (q_indexN rfl rfl rfl (stA (by assumption)) (by intro hc; omega)) ?_
   refine zS rfl (q_loadEl rfl rfl rfl (stA (by assumption)) (by intro hc; omega)) ?_
   refine zm rfl (sw_step rfl rfl rfl (q_callv hgc rfl rfl (.k rfl (.k rfl (.nil))) (fun _ w' hw => callq hw (hg (nth xs ((i + j) / 2)) (nth_mem hk) w' (hR.cl hw)))) (zS rfl (q_lss rfl rfl rfl) (nP ?_)))
   refine cw_cond rfl (fun h2 => ?_) (fun h2 => ?_)
   · refine cw_region (zm rfl ?_)
     refine zS rfl (q_add rfl rfl rfl (by intro hc; omega)) ?_
     refine za rfl (sw_nil (post_blk ?_))
     refine post_next ((i + j) / 2 + 1, j) (by exact .cons rfl (.cons rfl (.cons rfl (.cons rfl (.cons rfl (.cons rfl .nil)))))) (fun _ h => h) ⟨by simp only; omega, by simp only; omega, fun a ha => ?_, hhi⟩ (by simp only; omega)
     simp at h2 ha
     rcases Nat.lt_or_ge a ((i + j) / 2) with h3 | h3
     · exact hm a _ h3 hk h2
     · have : a = (i + j) / 2 := by omega
       rw [this]; exact h2
   · refine cw_region (zm rfl (za rfl (sw_nil (post_blk ?_))))
     refine post_next (i, (i + j) / 2) (by exact .cons rfl (.cons rfl (.cons rfl (.cons rfl (.cons rfl (.cons rfl .nil)))))) (fun _ h => h) ⟨by simp only; omega, by simp only; omega, hlo, fun a ha ha2 => ?_⟩ (by simp only; omega)
     simp at h2 ha
     rcases Nat.lt_or_ge ((i + j) / 2) a with h3 | h3
     · intro h4
       have := hm _ _ h3 ha2 h4
       omega
     · have : a = (i + j) / 2 := by omega
       rw [this]; omega
 · have hlt : i = j := by simp at h; omega
   subst hlt
   have e2 : lowB c xs = i := lowB_at hj hlo fun h1 => hhi i (Nat.le_refl _) h1
   refine cw_exit (post_then_x (post_then_x (post_blk_eq (post_then (zr (zm rfl (zm rfl (zm rfl (zS rfl (q_lss rfl rfl rfl) (zm rfl (zm rfl (zm rfl (zm rfl ?_)))))))))))))
   refine zS rfl (q_indexN rfl rfl rfl (stA (by assumption)) (by intro hc; (simp only [AllT.iff, List.all_cons, List.all_nil, id, Bool.and_eq_true, Bool.not_eq_true', decide_eq_true_eq, decide_eq_false_iff_not, and_true] at hc; omega))) ?_
   refine zS rfl (q_loadEl rfl rfl rfl (stA (by assumption)) (by intro hc; (simp only [AllT.iff, List.all_cons, List.all_nil, id, Bool.and_eq_true, Bool.not_eq_true', decide_eq_true_eq, decide_eq_false_iff_not, and_true] at hc; omega))) ?_
   refine zm rfl ?_
   refine sw_step rfl rfl rfl (q_callv hgc rfl rfl (.k rfl (.k rfl (.nil))) (fun hc w' hw => callq hw (hg (nth xs i) (nth_mem (by simp [AllT] at hc; omega)) w' (hR.cl hw)))) ?_
   refine zS rfl (q_eql rfl rfl rfl) (zS rfl (q_and2 rfl rfl rfl) (za rfl (za rfl (nP (cw_ret (post_ret2 rfl (resOk_tmp rfl) (resOk_tmp rfl) ?_))))))
   refine fun w' hw => ⟨?_, hw⟩
   rw [e2]
   congr 6
   rw [Bool.eq_iff_iff]; simp
theorem searchLet_spec (sv : Value) (xs : List Let) (t : Int) (g : FuncId) (cap : Array Value) (c : Let → Int) (R : World → Prop) (w : World) (hs : Stb w [] (RdL sv xs)) (hR : Stb w [] R) (hgc : CanCall Tryz.prog g) (hg : CmpT Tryz.prog g cap (.int .i32 t) c R xs) (hm : Halves c xs) :
   Calls Tryz.prog 165 #[sv, .int .i32 t, .func (.func g) #[] cap] w fun e w' => e = .returned (.tuple #[.int .i64 (lowB c xs), .bool (decide (lowB c xs < xs.length ∧ c (nth xs (lowB c xs)) = 0))]) ∧ Cl w [] [] w' := by
 have hL := rd_len hs.here
 refine calls_cw (vs := [_, _, _]) Tryz.func165 rfl Tryz.ntmps165 rfl (Cl.start0 w) (zr (za rfl (za rfl (nP (cw_seq (cw_region (zm rfl ?_)))))))
 refine zS rfl (q_len rfl (.k rfl (.nil)) (stA (by assumption))) ?_
 refine za rfl (nP (zr (zm rfl (za rfl (za rfl (sw_nil (post_then (cw_seq (cw_block ?_)))))))))
 refine cw_loop (S := Nat × Nat) (fun y => [(0, [], sv), (1, [], .int .i32 t), (2, [], .func (.func g) #[] cap), (8, [], .int .i64 xs.length), (9, [], .int .i64 y.1), (10, [], .int .i64 y.2)]) (fun _ => Cl w [] []) (fun y => y.1 ≤ y.2 ∧ y.2 ≤ xs.length ∧ (∀ i, i < y.1 → c (nth xs i) < 0) ∧ ∀ i, y.2 ≤ i → i < xs.length → ¬ c (nth xs i) < 0) (fun y => y.2 - y.1) (0, xs.length) ⟨by simp, by simp, fun i hi => by simp at hi, fun i h1 h2 => by simp at h1; omega⟩ (by exact .cons rfl (.cons rfl (.cons rfl (.cons rfl (.cons rfl (.cons rfl .nil)))))) (fun _ h => h) ?_
 rintro ⟨i, j⟩ ⟨hij, hj, hlo, hhi⟩
 dsimp only at hij hj hlo hhi ⊢
 refine cw_seq (zr (zm rfl (zm rfl (zS rfl (q_lss rfl rfl rfl) (nP ?_)))))
 refine cw_cond rfl (fun h => ?_) (fun h => ?_)
 · have hlt : i < j := by simp at h; omega
   have e1 := half_wrap (i := i) (j := j) (by omega)
   have hk : (i + j) / 2 < xs.length := by omega
   refine sP (cw_block (zr (zm rfl (zm rfl (zS rfl (q_add_w rfl rfl rfl) (zS rfl (q_conv rfl rfl) ?_))))))
   refine zS rfl (q_shr rfl rfl rfl (by exact fun _ => ⟨by decide, by decide⟩)) ?_
   refine zS rfl (q_convE e1 rfl rfl) (za rfl (nP (zr (zm rfl (zm rfl (zm rfl ?_))))))
   refine zS rfl (q_indexN rfl rfl rfl (stA (by assumption)) (by intro hc; omega)) ?_
   refine zS rfl (q_loadEl rfl rfl rfl (stA (by assumption)) (by intro hc; omega)) ?_
   refine zm rfl (sw_step rfl rfl rfl (q_callv hgc rfl rfl (.k rfl (.k rfl (.nil))) (fun _ w' hw => callq hw (hg (nth xs ((i + j) / 2)) (nth_mem hk) w' (hR.cl hw)))) (zS rfl (q_lss rfl rfl rfl) (nP ?_)))
   refine cw_cond rfl (fun h2 => ?_) (fun h2 => ?_)
   · refine cw_region (zm rfl ?_)
     refine zS rfl (q_add rfl rfl rfl (by intro hc; omega)) ?_
     refine za rfl (sw_nil (post_blk ?_))
     refine post_next ((i + j) / 2 + 1, j) (by exact .cons rfl (.cons rfl (.cons rfl (.cons rfl (.cons rfl (.cons rfl .nil)))))) (fun _ h => h) ⟨by simp only; omega, by simp only; omega, fun a ha => ?_, hhi⟩ (by simp only; omega)
     simp at h2 ha
     rcases Nat.lt_or_ge a ((i + j) / 2) with h3 | h3
     · exact hm a _ h3 hk h2
     · have : a = (i + j) / 2 := by omega
       rw [this]; exact h2
   · refine cw_region (zm rfl (za rfl (sw_nil (post_blk ?_))))
     refine post_next (i, (i + j) / 2) (by exact .cons rfl (.cons rfl (.cons rfl (.cons rfl (.cons rfl (.cons rfl .nil)))))) (fun _ h => h) ⟨by simp only; omega, by simp only; omega, hlo, fun a ha ha2 => ?_⟩ (by simp only; omega)
     simp at h2 ha
     rcases Nat.lt_or_ge ((i + j) / 2) a with h3 | h3
     · intro h4
       have := hm _ _ h3 ha2 h4
       omega
     · have : a = (i + j) / 2 := by omega
       rw [this]; omega
 · have hlt : i = j := by simp at h; omega
   subst hlt
   have e2 : lowB c xs = i := lowB_at hj hlo fun h1 => hhi i (Nat.le_refl _) h1
   refine cw_exit (post_then_x (post_then_x (post_blk_eq (post_then (zr (zm rfl (zm rfl (zm rfl (zS rfl (q_lss rfl rfl rfl) (zm rfl (zm rfl (zm rfl (zm rfl ?_)))))))))))))
   refine zS rfl (q_indexN rfl rfl rfl (stA (by assumption)) (by intro hc; (simp only [AllT.iff, List.all_cons, List.all_nil, id, Bool.and_eq_true, Bool.not_eq_true', decide_eq_true_eq, decide_eq_false_iff_not, and_true] at hc; omega))) ?_
   refine zS rfl (q_loadEl rfl rfl rfl (stA (by assumption)) (by intro hc; (simp only [AllT.iff, List.all_cons, List.all_nil, id, Bool.and_eq_true, Bool.not_eq_true', decide_eq_true_eq, decide_eq_false_iff_not, and_true] at hc; omega))) ?_
   refine zm rfl ?_
   refine sw_step rfl rfl rfl (q_callv hgc rfl rfl (.k rfl (.k rfl (.nil))) (fun hc w' hw => callq hw (hg (nth xs i) (nth_mem (by simp [AllT] at hc; omega)) w' (hR.cl hw)))) ?_
   refine zS rfl (q_eql rfl rfl rfl) (zS rfl (q_and2 rfl rfl rfl) (za rfl (za rfl (nP (cw_ret (post_ret2 rfl (resOk_tmp rfl) (resOk_tmp rfl) ?_))))))
   refine fun w' hw => ⟨?_, hw⟩
   rw [e2]
   congr 6
   rw [Bool.eq_iff_iff]; simp
theorem equalL_spec (sa sb : Value) (a b : List ByteArray) (w : World) (ha : Stb w [] (RdL sa a)) (hb : Stb w [] (RdL sb b)) : Calls Tryz.prog 100 #[sa, sb] w fun e w' => e = .returned (.bool (decide (a = b))) ∧ Cl w [] [] w' := by
 have hLa := rd_len ha.here
 have hLb := rd_len hb.here
 refine calls_cw (vs := [_, _]) Tryz.func100 rfl Tryz.ntmps100 rfl (Cl.start0 w) (zr (za rfl (nP (cw_seq (cw_seq (cw_region (zm rfl ?_)))))))
 refine zS rfl (q_len rfl (.k rfl (.nil)) (stA (by assumption))) ?_
 refine zm rfl ?_
 refine zS rfl (q_len rfl (.k rfl (.nil)) (stA (by assumption))) ?_
 refine zS rfl (q_neq rfl rfl rfl) (nP ?_)
 refine cw_cond rfl (fun h => ?_) (fun h => ?_)
 · have h2 : ¬ a = b := fun e => by subst e; simp at h
   refine zr (za rfl (nP (cw_ret (post_then_r (post_ret1 rfl (resOk_tmp rfl) ?_)))))
   exact fun w' hw => ⟨by rw [decide_eq_false h2], hw⟩
 · have hl : a.length = b.length := by simp at h; omega
   refine sP (cw_seq (zr (zm rfl ?_)))
   refine zS rfl (q_len rfl (.k rfl (.nil)) (stA (by assumption))) ?_
   refine zm rfl (nP (cw_block ?_))
   refine cw_loop (S := Nat) (fun k => [(0, [], sa), (1, [], sb), (12, [], .int .i64 a.length), (13, [], .int .i64 k)]) (fun _ => Cl w [] []) (fun k => k ≤ a.length ∧ ∀ j, j < k → nth a j = nth b j) (fun k => a.length - k) 0 ⟨Nat.zero_le _, fun j hj => by omega⟩ (by exact .cons rfl (.cons rfl (.cons rfl (.cons rfl .nil)))) (fun _ h => h) ?_
   rintro k ⟨hk, hbe⟩
   refine zr (zS rfl (q_lss rfl rfl rfl) (nP (cw_seq ?_)))
   refine cw_cond rfl (fun h2 => ?_) (fun h2 => ?_)
   · have hk' : k < a.length := by simp at h2; omega
     refine sP (cw_seq (cw_block (zr (zm rfl (za rfl (nP (cw_seq ?_)))))))
     refine cw_region_q mixed_Tryz (by kernel_rfl) ?_
     refine zw rfl (zw rfl ?_)
     refine zq rfl (q_indexN rfl rfl rfl (stA (by assumption)) (by intro hc; omega)) ?_
     refine zq rfl (q_loadEl rfl rfl rfl (stA (by assumption)) (by intro hc; omega)) ?_
     refine zw rfl (zw rfl ?_)
     refine zq rfl (q_indexN rfl rfl rfl (stA (by assumption)) (by intro hc; omega)) ?_
     refine zq rfl (q_loadEl rfl rfl rfl (stA (by assumption)) (by intro hc; omega)) ?_
     refine zq rfl (q_neqStr rfl rfl rfl Tryz.underlying9) (qw_end (post_then ?_))
     refine cw_cond rfl (fun h3 => ?_) (fun h3 => ?_)
     · have h4 : ¬ a = b := fun e => by subst e; simp at h3
       refine zr (za rfl (nP (cw_ret (post_blk_r (post_then_r (post_then_r (post_blk_r (post_then_r (post_ret1 rfl (resOk_tmp rfl) ?_)))))))))
       exact fun w' hw => ⟨by rw [decide_eq_false h4], hw⟩
     · have h4 : nth a k = nth b k := by simpa using h3
       refine cw_skip (post_blk (post_then (cw_region ?_)))
       refine zS rfl (q_add rfl rfl rfl (by intro hc; omega)) ?_
       refine zm rfl (sw_nil ?_)
       exact post_next (k + 1) (by exact .cons rfl (.cons rfl (.cons rfl (.cons rfl .nil)))) (fun _ h => h) ⟨by omega, fun j hj => by
         rcases Nat.lt_or_ge j k with h5 | h5
         · exact hbe j h5
         · have : j = k := by omega
           subst this; exact h4⟩ (by omega)
   · have hk' : k = a.length := by simp at h2; omega
     have h4 : a = b := List.ext_getElem hl fun i h5 h6 => by
       have := hbe i (by omega)
       rwa [nth_get h5, nth_get h6] at this
     refine cw_exit (post_then_x (post_then_x (post_blk_eq (post_then (zr (za rfl (nP (cw_ret (post_ret1 rfl (resOk_tmp rfl) ?_)))))))))
     exact fun w' hw => ⟨by rw [decide_eq_true h4], hw⟩
theorem cloneL_spec (s : SlV) (l : List ByteArray) (hlen : l.length ≤ 1000000) (w : World) (hs : Stb w [] (RdL s.v l)) : Calls Tryz.prog 87 #[s.v] w fun e w' => ∃ r : SlV, e = .returned r.v ∧ (l = [] → r.len = 0) ∧ Cl w [] [ownL 9 r.v l] w' := by
 have hL := rd_len hs.here
 refine calls_cw (vs := [_]) Tryz.func87 rfl Tryz.ntmps87 rfl (Cl.start0 w) (zr (za rfl (nP (cw_seq (cw_seq (cw_region (zm rfl (zS rfl (q_eqlNil rfl rfl) (sw_nil (post_then ?_))))))))))
 refine cw_cond rfl (fun h => ?_) (fun h => ?_)
 · have h1 : l = [] := rd_nil hs.here (by simpa using h)
   refine zr (za rfl (nP (cw_ret (post_then_r (post_ret1 rfl (resOk_tmp rfl) ?_)))))
   exact fun w' hw => ⟨⟨none, 0, 0⟩, rfl, fun _ => rfl, by rw [h1]; exact Cl.addNil 9 hw⟩
 · refine sP (zr ?_)
   refine sw_x rfl rfl rfl (e_buildL (α := ByteArray) (l := []) rfl (.nil) rfl rfl rfl rfl) (fun s5 => ?_)
   refine zm rfl ?_
   refine sw_x rfl rfl rfl (e_append (i := 0) rfl (.k rfl (.k rfl (.nil))) rfl rfl (stA (by assumption)) (by first | omega | (simp only [List.length_set, List.length_append, List.length_cons, List.length_nil, List.length_replicate, List.length_take, List.length_drop, List.length_map]; omega)) rfl) (fun s7 => ?_)
   refine za rfl (nP (cw_ret (post_ret1 rfl (resOk_tmp rfl) ?_)))
   refine fun w' hw => ⟨s7, rfl, fun h1 => ?_, (Cl.sel (by exact .take 0 rfl (.nil _))) _ hw⟩
   have := rd_own (e := 9) hw (.head _)
   have := this.len
   simp [h1] at this; omega
end Go.Proofs.YtkmbliojafefdaaGreatDoor

/-
 DERIVED: THE SHELF's CONTRACTS AT THIS DUMP, IN PLAIN WORDS (tools/lay-plain.mjs out of 'TryzShelf.lean', which tools/lay-shelf.mjs wrote): THE SAME DECLARATIONS UNDER THE SAME NAMES: 'import', 'namespace', 'open', 'def', 'theorem' AND NOTHING ELSE: no command of the shelf's: FOR A HAND-IN. Each laying: the table of numbers ('.._ren') and one theorem, a field a fact of the dump's own or the kernel's comparison; each contract: ONE APPLICATION.
-/
namespace Go.Proofs
open Go.Shelf
def Tryz.lays156_ren : Go.Shelf.Ren := ⟨fun | 156 => 185 | 165 => 199 | 166 => 200 | 169 => 201 | 240 => 209 | 241 => 210 | 276 => 212 | 277 => 213 | n => n, fun | 31 => 23 | 9 => 9 | 3 => 3 | 4 => 4 | 0 => 0 | 20 => 20 | 72 => 269 | 76 => 273 | 70 => 266 | 37 => 267 | 75 => 272 | 127 => 282 | 164 => 284 | 5 => 5 | 80 => 275 | n => n, fun | n => n⟩
theorem Tryz.lays156 : Go.Proofs.Lays.n156 Tryz.prog Tryz.lays156_ren := {
 mixed := by kernel_rfl
 f156 := Tryz.func185.trans (congrArg some (by kernel_rfl))
 f165 := Tryz.func199.trans (congrArg some (by kernel_rfl))
 f166 := Tryz.func200.trans (congrArg some (by kernel_rfl))
 f169 := Tryz.func201.trans (congrArg some (by kernel_rfl))
 f240 := Tryz.func209.trans (congrArg some (by kernel_rfl))
 f241 := Tryz.func210.trans (congrArg some (by kernel_rfl))
 f276 := Tryz.func212.trans (congrArg some (by kernel_rfl))
 f277 := Tryz.func213.trans (congrArg some (by kernel_rfl))
 t0 := Tryz.underlying0
 a0 := Tryz.isAgg0
 z0 := Tryz.sizeOf0
 v0 := Tryz.zeroValue0
 t3 := Tryz.underlying3
 a3 := Tryz.isAgg3
 z3 := Tryz.sizeOf3
 v3 := Tryz.zeroValue3
 t4 := Tryz.underlying4
 a4 := Tryz.isAgg4
 z4 := Tryz.sizeOf4
 v4 := Tryz.zeroValue4
 t9 := Tryz.underlying9
 a9 := Tryz.isAgg9
 z9 := Tryz.sizeOf9
 v9 := Tryz.zeroValue9
 t20 := Tryz.underlying20
 a20 := Tryz.isAgg20
 z20 := Tryz.sizeOf20
 v20 := Tryz.zeroValue20
 t31 := Tryz.underlying23
 a31 := Tryz.isAgg23
 z31 := Tryz.sizeOf23
 v31 := Tryz.zeroValue23
 t37 := Tryz.underlying267
 a37 := Tryz.isAgg267
 z37 := Tryz.sizeOf267
 v37 := Tryz.zeroValue267
 t70 := Tryz.underlying266
 a70 := Tryz.isAgg266
 z70 := Tryz.sizeOf266
 v70 := Tryz.zeroValue266
 t72 := Tryz.underlying269
 a72 := Tryz.isAgg269
 z72 := Tryz.sizeOf269
 v72 := Tryz.zeroValue269
 t75 := Tryz.underlying272
 a75 := Tryz.isAgg272
 z75 := Tryz.sizeOf272
 v75 := Tryz.zeroValue272
 t76 := Tryz.underlying273
 a76 := Tryz.isAgg273
 z76 := Tryz.sizeOf273
 v76 := Tryz.zeroValue273
 t127 := Tryz.underlying282
 a127 := Tryz.isAgg282
 z127 := Tryz.sizeOf282
 v127 := Tryz.zeroValue282
 t164 := Tryz.underlying284
 a164 := Tryz.isAgg284
 z164 := Tryz.sizeOf284
 v164 := Tryz.zeroValue284 }
theorem Tryz.Builder_Extra_156 : Builder.Extra Tryz.prog Tryz.lays156_ren := {
 sizeBuilder := by kernel_rfl
 liesBuilder := by kernel_rfl
 t5 := Tryz.underlying5
 a5 := Tryz.isAgg5
 z5 := Tryz.sizeOf5
 v5 := Tryz.zeroValue5
 infoByte := by kernel_rfl
 cellsByte := by kernel_rfl
 sizeByte := by kernel_rfl
 neB5 := by decide }
open Go.RowKit in
theorem Tryz.strings_Join_none (a : Option Addr) (c : Nat) (sep : ByteArray) (w : World) :
   Calls Tryz.prog 185 #[.slice a 0 c, .string sep] w fun e w' => e = .returned (.string ⟨#[]⟩) ∧ w' = w := Any.strings_Join_none Tryz.lays156 Tryz.Builder_Extra_156 a c sep w
open Go.RowKit in
theorem Tryz.strings_Join (bk o c : Nat) (xs : List ByteArray) (sep : ByteArray) (w : World) (hcells : ∀ (j : Nat) x, xs[j]? = some x → w.cell? ⟨bk, o + j, none⟩ = some (.string x)) (hbk : bk < w.heap.size) (hN : xs.length ≤ 140737488355328) (hcap : xs.length ≤ c) (hlen : (Lib.join (xs.map (·.data.toList)) sep.data.toList).length ≤ 140737488355328) :
   Calls Tryz.prog 185 #[.slice (some ⟨bk, o, none⟩) xs.length c, .string sep] w fun e w' => e = .returned (.string ⟨(Lib.join (xs.map (·.data.toList)) sep.data.toList).toArray⟩) ∧ Below w.heap.size w w' := Any.strings_Join Tryz.lays156 Tryz.Builder_Extra_156 bk o c xs sep w hcells hbk hN hcap hlen
def Tryz.lays106_ren : Go.Shelf.Ren := ⟨fun | 106 => 94 | 213 => 132 | 265 => 161 | n => n, fun | 9 => 9 | 3 => 3 | n => n, fun | n => n⟩
theorem Tryz.lays106 : Go.Proofs.Lays.n106 Tryz.prog Tryz.lays106_ren := {
 mixed := by kernel_rfl
 f106 := Tryz.func94.trans (congrArg some (by kernel_rfl))
 f213 := Tryz.func132.trans (congrArg some (by kernel_rfl))
 f265 := Tryz.func161.trans (congrArg some (by kernel_rfl))
 t3 := Tryz.underlying3
 a3 := Tryz.isAgg3
 z3 := Tryz.sizeOf3
 v3 := Tryz.zeroValue3
 t9 := Tryz.underlying9
 a9 := Tryz.isAgg9
 z9 := Tryz.sizeOf9
 v9 := Tryz.zeroValue9 }
open Go.RowKit in
theorem Tryz.strings_Compare (a b : ByteArray) (w : World) :
   Calls Tryz.prog 94 #[.string a, .string b] w fun e w' => e = .returned (.int .i64 (Lib.compareBytes a.data.toList b.data.toList)) ∧ w' = w := Any.strings_Compare Tryz.lays106 a b w
def Tryz.lays196_ren : Go.Shelf.Ren := ⟨fun | 196 => 65 | 259 => 115 | n => n, fun | 9 => 9 | 4 => 4 | 3 => 3 | 5 => 5 | 12 => 12 | 119 => 170 | 0 => 0 | 46 => 174 | 139 => 173 | 138 => 172 | 53 => 203 | n => n, fun | 3 => 0 | 4 => 1 | n => n⟩
theorem Tryz.lays196 : Go.Proofs.Lays.n196 Tryz.prog Tryz.lays196_ren := {
 mixed := by kernel_rfl
 f196 := Tryz.func65.trans (congrArg some (by kernel_rfl))
 f259 := Tryz.func115.trans (congrArg some (by kernel_rfl))
 t0 := Tryz.underlying0
 a0 := Tryz.isAgg0
 z0 := Tryz.sizeOf0
 v0 := Tryz.zeroValue0
 t3 := Tryz.underlying3
 a3 := Tryz.isAgg3
 z3 := Tryz.sizeOf3
 v3 := Tryz.zeroValue3
 t4 := Tryz.underlying4
 a4 := Tryz.isAgg4
 z4 := Tryz.sizeOf4
 v4 := Tryz.zeroValue4
 t5 := Tryz.underlying5
 a5 := Tryz.isAgg5
 z5 := Tryz.sizeOf5
 v5 := Tryz.zeroValue5
 t9 := Tryz.underlying9
 a9 := Tryz.isAgg9
 z9 := Tryz.sizeOf9
 v9 := Tryz.zeroValue9
 t12 := Tryz.underlying12
 a12 := Tryz.isAgg12
 z12 := Tryz.sizeOf12
 v12 := Tryz.zeroValue12
 t46 := Tryz.underlying174
 a46 := Tryz.isAgg174
 z46 := Tryz.sizeOf174
 v46 := Tryz.zeroValue174
 t53 := Tryz.underlying203
 a53 := Tryz.isAgg203
 z53 := Tryz.sizeOf203
 v53 := Tryz.zeroValue203
 t119 := Tryz.underlying170
 a119 := Tryz.isAgg170
 z119 := Tryz.sizeOf170
 t138 := Tryz.underlying172
 a138 := Tryz.isAgg172
 z138 := Tryz.sizeOf172
 v138 := Tryz.zeroValue172
 t139 := Tryz.underlying173
 a139 := Tryz.isAgg173
 z139 := Tryz.sizeOf173
 v139 := Tryz.zeroValue173
 g3 := by kernel_rfl
 g4 := by kernel_rfl }
open Go.RowKit in
theorem Tryz.utf8_ValidString (s : ByteArray) (w : World) (hs : s.size ≤ 9223372036854775807) (hT : Lib.Utf8Tabs (Tryz.lays196_ren.g 3) (Tryz.lays196_ren.g 4) w) :
   Calls Tryz.prog 65 #[.string s] w fun e w' => e = .returned (.bool (Lib.validD s.data.toList)) ∧ Below w.heap.size w w' := Any.utf8_ValidString Tryz.lays196 s w hs hT
end Go.Proofs

set_option autoImplicit false
set_option maxRecDepth 100000
namespace Go.Proofs.YtkmbliojafefdaaGreatDoor
open Go.Sx
open Enc (enc val)
def Tab (w : World) : Prop := Lib.Utf8Tabs 0 1 w
theorem tab_stb {w : World} (h : Tab w) : Stb w [] Tab := ⟨fun w' k => Utf8Tabs_below h (k.below)⟩
theorem cl_below {w w' : World} (h : RowKit.Below w.heap.size w w') : Cl w [] [] w' := ⟨Chg.of_below h, [], rfl, List.nodup_nil, fun b hb => by simp at hb⟩
def vstr (s : ByteArray) : Bool := Lib.validD s.data.toList
theorem validStr_spec (s : ByteArray) (w : World) (hs : s.size ≤ 9223372036854775807) (hT : Tab w) : Calls Tryz.prog 65 #[.string s] w fun e w' => e = .returned (.bool (vstr s)) ∧ Cl w [] [] w' :=
 (Tryz.utf8_ValidString s w hs hT).mono fun e w' ⟨h1, h2⟩ => ⟨h1, cl_below h2⟩
theorem strCmp_spec (a b : ByteArray) (w : World) : Calls Tryz.prog 94 #[.string a, .string b] w fun e w' => e = .returned (.int .i64 (cmpS a b)) ∧ Cl w [] [] w' :=
 (Tryz.strings_Compare a b w).mono fun e w' ⟨h1, h2⟩ => ⟨by rw [h1, cmpS_eq], by rw [h2]; exact Cl.start0 w⟩
def wordOk (s : ByteArray) : Bool := vstr s && (runes s).all (fun c => possC c.v) && (decide (1 ≤ (runes s).length) && decide ((runes s).length ≤ 40))
theorem runes_map (s : ByteArray) : runes s = (runesP s 0).map fun x => ⟨x.2⟩ := rfl
theorem isWord_spec (s : ByteArray) (w : World) (hs : s.size ≤ 9223372036854775806) (hT : Stb w [] Tab) : Calls Tryz.prog 62 #[.string s] w fun e w' => e = .returned (.bool (wordOk s)) ∧ Cl w [] [] w' := by
 have hs2 : s.size ≤ 9223372036854775807 := by omega
 refine calls_cw (vs := [_]) Tryz.func62 rfl Tryz.ntmps62 rfl (Cl.start0 w) (zr (za rfl (nP (cw_seq (cw_seq (cw_region (zm rfl ?_)))))))
 refine sw_step rfl rfl rfl (q_call (CanCall.mk Tryz.call65) rfl (.k rfl (.nil)) (fun _ w hw => callq hw (validStr_spec _ w (by assumption) (stb_arg hw (by assumption)).here))) ?_
 refine zS rfl (q_not rfl rfl) (nP ?_)
 refine cw_cond rfl (fun h => ?_) (fun h => ?_)
 · have e : wordOk s = false := by simp at h; simp [wordOk, h]
   refine zr (za rfl (nP (cw_ret (post_then_r (post_ret1 rfl (resOk_tmp rfl) ?_)))))
   exact fun w' hw => ⟨by rw [e], hw⟩
 · have hv : vstr s = true := by simpa using h
   refine sP (zr (za rfl (nP (cw_seq (cw_seq (cw_region (zm rfl ?_)))))))
   refine sw_x rfl rfl rfl (e_rangeS rfl rfl Tryz.underlying9) (fun r10 => ?_)
   refine nP (cw_block ?_)
   refine cw_loop (S := Nat × Nat) (fun y => [(3, [], .int .i64 y.2), (10, [], .pointer (some ⟨r10, 0, none⟩))]) (fun y => Cl w [] [obj r10 (.stringIter s y.1)]) (fun y => y.2 ≤ y.1 ∧ y.2 ≤ s.size ∧ (runesP s 0).length = y.2 + (runesP s y.1).length ∧ ((runesP s 0).all fun x => possC x.2) = ((runesP s y.1).all fun x => possC x.2)) (fun y => s.size - y.1) (0, 0) ⟨by simp, by simp, by simp, rfl⟩ (by exact .cons rfl (.cons rfl .nil)) (fun _ h => h) ?_
   rintro ⟨k, m⟩ ⟨hmk, hms, hlen, hall⟩
   dsimp only at hmk hms hlen hall ⊢
   refine zr ?_
   refine sw_x rfl rfl rfl (e_nextS (i := 0) rfl rfl rfl) (fun y11 => ?_)
   refine zS rfl (q_extract rfl rfl (nextSV_0 _ _)) (nP (cw_seq ?_))
   refine cw_cond rfl (fun h2 => ?_) (fun h2 => ?_)
   · have hk : k < s.size := by simpa using h2
     have hp := decode_pos s k
     have hst := runesP_step hk
     have hnp : nextSP s k = k + (Utf8.decode s k).2 := by simp [nextSP, hk]
     refine sP (cw_block (zr ?_))
     refine zS rfl (q_extract rfl rfl (nextSV_2 (by assumption))) ?_
     refine za rfl (nP (cw_seq (zr (zm rfl (sw_step rfl rfl rfl (q_call (CanCall.mk Tryz.call76) rfl (.k rfl (.nil)) (fun _ w hw => callq hw (possible_spec _ w))) (zS rfl (q_not rfl rfl) (sw_nil (post_then ?_))))))))
     refine cw_cond rfl (fun h3 => ?_) (fun h3 => ?_)
     · have e : wordOk s = false := by
         have h5 : ((runes s).all fun c => possC c.v) = false := by
           rw [runes_map, List.all_map]
           show ((runesP s 0).all fun x => possC x.2) = false
           rw [hall, hst]; simp at h3; simp [h3]
         simp [wordOk, h5]
       refine zr (za rfl (nP (cw_ret (post_then_r (post_blk_r (post_then_r (post_blk_r (post_then_r (post_ret1 rfl (resOk_tmp rfl) ?_)))))))))
       exact fun w' hw => ⟨by rw [e], (Cl.sel (by exact .nil _)) _ hw⟩
     · refine sP (cw_region (zm rfl ?_))
       refine zS rfl (q_add rfl rfl rfl (by intro hc; omega)) ?_
       refine za rfl (sw_nil (post_blk ?_))
       refine post_next (k + (Utf8.decode s k).2, m + 1) (by exact .cons rfl (.cons rfl .nil)) (by rw [← hnp]; exact fun _ h => h) ⟨by simp only; omega, by simp only; omega, by rw [hlen, hst]; simp; omega, by rw [hall, hst]; simp at h3; simp [h3]⟩ (by simp only; omega)
   · have hk : ¬ k < s.size := by simpa using h2
     have he := runesP_end hk
     have h5 : ((runes s).all fun c => possC c.v) = true := by
       rw [runes_map, List.all_map]
       show ((runesP s 0).all fun x => possC x.2) = true
       rw [hall, he]; rfl
     have h6 : (runes s).length = m := by rw [runes_map, List.length_map, hlen, he]; rfl
     refine cw_exit (post_then_x (post_then_x (post_blk_eq (post_then (zr (zm rfl (zS rfl (q_geq rfl rfl rfl) (zm rfl (zm rfl (zS rfl (q_leq rfl rfl rfl) (zS rfl (q_and2 rfl rfl rfl) (za rfl (nP (cw_ret (post_ret1 rfl (resOk_tmp rfl) ?_)))))))))))))))
     refine fun w' hw => ⟨?_, (Cl.sel (by exact .nil _)) _ hw⟩
     congr 2
     rw [Bool.eq_iff_iff]
     simp [wordOk, hv, h5, h6]
     omega
theorem letters_spec (s : ByteArray) (w : World) (hs : s.size ≤ 1000000) : Calls Tryz.prog 110 #[.string s] w fun e w' => ∃ r : SlV, e = .returned r.v ∧ True ∧ Cl w [] [ownL 21 r.v (runes s)] w' := by
 refine calls_cw (vs := [_]) Tryz.func110 rfl Tryz.ntmps110 rfl (Cl.start0 w) (zr (za rfl (nP (cw_seq (cw_region (za rfl (sw_nil (post_then (cw_seq (cw_seq (cw_region (zm rfl ?_))))))))))))
 refine sw_x rfl rfl rfl (e_rangeS rfl rfl Tryz.underlying9) (fun r7 => ?_)
 refine nP (cw_block ?_)
 refine cw_loop (S := Nat × SlV × List Rn) (fun y => [(3, [], y.2.1.v), (7, [], .pointer (some ⟨r7, 0, none⟩))]) (fun y => Cl w [] [ownL 21 y.2.1.v y.2.2, obj r7 (.stringIter s y.1)]) (fun y => y.2.2.length ≤ y.1 ∧ y.2.2.length ≤ s.size ∧ runes s = y.2.2 ++ (runesP s y.1).map fun x => ⟨x.2⟩) (fun y => s.size - y.1) (0, ⟨none, 0, 0⟩, []) ⟨by simp, by simp, rfl⟩ (by exact .cons rfl (.cons rfl .nil)) (fun _ h => Cl.addNil 21 h) ?_
 rintro ⟨k, so, l⟩ ⟨hlk, hls, hall⟩
 dsimp only at hlk hls hall ⊢
 refine zr ?_
 refine sw_x rfl rfl rfl (e_nextS (i := 1) rfl rfl rfl) (fun y11 => ?_)
 refine zS rfl (q_extract rfl rfl (nextSV_0 _ _)) (nP (cw_seq ?_))
 refine cw_cond rfl (fun h2 => ?_) (fun h2 => ?_)
 · have hk : k < s.size := by simpa using h2
   have hp := decode_pos s k
   have hst := runesP_step hk
   have hnp : nextSP s k = k + (Utf8.decode s k).2 := by simp [nextSP, hk]
   refine sP (cw_block (zr ?_))
   refine zS rfl (q_extract rfl rfl (nextSV_2 (by assumption))) ?_
   refine za rfl (nP (cw_region (zm rfl (zm rfl ?_))))
   refine sw_x rfl rfl rfl (e_build1 (α := Rn) (x := ⟨(Utf8.decode s k).1⟩) rfl rfl rfl rfl) (fun s13 => ?_)
   refine sw_x rfl rfl rfl (e_append (i := 1) rfl (.k rfl (.k rfl (.nil))) rfl rfl (rdO (by exact .head _)) (by first | omega | (simp only [List.length_set, List.length_append, List.length_cons, List.length_nil, List.length_replicate, List.length_take, List.length_drop, List.length_map]; omega)) rfl) (fun s14 => ?_)
   refine za rfl (sw_nil (post_blk ?_))
   refine post_next (k + (Utf8.decode s k).2, s14, l ++ [⟨(Utf8.decode s k).1⟩]) (by exact .cons rfl (.cons rfl .nil)) (fun w' hw' => ?_) ⟨by simp; omega, by simp; omega, by rw [hall, hst]; simp⟩ (by simp only; omega)
   rw [← hnp]
   exact (Cl.sel (by exact .take 1 rfl (.take 1 rfl (.nil _)))) _ hw'
 · have hk : ¬ k < s.size := by simpa using h2
   have he := runesP_end hk
   have e : l = runes s := by rw [hall, he]; simp
   refine cw_exit (post_then_x (post_then_x (post_blk_eq (post_then (zr (zm rfl (za rfl (nP (cw_ret (post_ret1 rfl (resOk_tmp rfl) ?_))))))))))
   exact fun w' hw => ⟨so, rfl, trivial, by rw [← e]; exact (Cl.sel (by exact .take 0 rfl (.nil _))) _ hw⟩
end Go.Proofs.YtkmbliojafefdaaGreatDoor

set_option autoImplicit false
set_option maxRecDepth 100000
namespace Go.Proofs.YtkmbliojafefdaaGreatDoor
open Go.Sx
open Enc (enc val)
def lettersR (s : ByteArray) : List Rn := if vstr s = true ∧ (runes s).all (fun c => possC c.v) = true then runes s else []
theorem lettersR_ok {s : ByteArray} (h : wordOk s = true) : lettersR s = runes s := by
 simp only [wordOk, Bool.and_eq_true] at h
 unfold lettersR
 rw [if_pos ⟨h.1.1, h.1.2⟩]
theorem refLetters_spec (s : ByteArray) (w : World) (hs : s.size ≤ 1000000) (hT : Stb w [] Tab) : Calls Tryz.prog 21 #[.string s] w fun e w' => ∃ r : SlV, e = .returned (.tuple #[r.v, .bool (wordOk s)]) ∧ True ∧ Cl w [] [ownL 21 r.v (lettersR s)] w' := by
 have hs2 : s.size ≤ 9223372036854775807 := by omega
 have hrl := runes_len_le s
 refine calls_cw (vs := [_]) Tryz.func21 rfl Tryz.ntmps21 rfl (Cl.start0 w) (zr (za rfl (za rfl (nP (cw_seq (cw_seq (cw_region (zm rfl ?_))))))))
 refine sw_step rfl rfl rfl (q_call (CanCall.mk Tryz.call65) rfl (.k rfl (.nil)) (fun _ w hw => callq hw (validStr_spec _ w (by assumption) (stb_arg hw (by assumption)).here))) ?_
 refine zS rfl (q_not rfl rfl) (nP ?_)
 refine cw_cond rfl (fun h => ?_) (fun h => ?_)
 · have e : wordOk s = false := by simp at h; simp [wordOk, h]
   have e2 : lettersR s = [] := by simp at h; simp [lettersR, h]
   refine zr (za rfl (za rfl (nP (cw_ret (post_then_r (post_ret2 rfl (resOk_tmp rfl) (resOk_tmp rfl) ?_))))))
   exact fun w' hw => ⟨⟨none, 0, 0⟩, by rw [e]; rfl, trivial, by rw [e2]; exact Cl.addNil 21 hw⟩
 · have hv : vstr s = true := by simpa using h
   refine sP (zr (zm rfl ?_))
   refine sw_x rfl rfl rfl (e_runes rfl rfl Tryz.underlying9 Tryz.underlying21 (by omega)) (fun s10 => ?_)
   refine za rfl (nP (cw_seq (zr (za rfl (sw_nil (post_then (cw_block ?_)))))))
   refine cw_loop (S := Nat) (fun k => [(4, [], s10.v), (5, [], .int .i64 k)]) (fun k => Cl w [] [ownL 21 s10.v (runes s)]) (fun k => k ≤ (runes s).length ∧ ∀ j, j < k → possC (nth (runes s) j).v = true) (fun k => (runes s).length - k) 0 ⟨by simp, fun j hj => by omega⟩ (by exact .cons rfl (.cons rfl .nil)) (fun _ h => h) ?_
   rintro k ⟨hk, hbe⟩
   refine cw_seq (zr (zm rfl (zm rfl ?_)))
   refine zS rfl (q_len rfl (.k rfl (.nil)) (rdO (by exact .head _))) ?_
   refine zS rfl (q_lss rfl rfl rfl) (nP ?_)
   refine cw_cond rfl (fun h2 => ?_) (fun h2 => ?_)
   · have hk' : k < (runes s).length := by simp at h2; omega
     refine sP (cw_seq (cw_block (zr (zm rfl (zm rfl ?_)))))
     refine zS rfl (q_indexN rfl rfl rfl (rdO (by exact .head _)) (by intro hc; omega)) ?_
     refine zS rfl (q_loadF rfl rfl rfl (rdO (by exact .head _)) (by intro hc; omega) rfl) ?_
     refine sw_step rfl rfl rfl (q_call (CanCall.mk Tryz.call66) rfl (.k rfl (.nil)) (fun _ w hw => callq hw (refLetter_spec _ w))) (zS rfl (q_not rfl rfl) (nP ?_))
     refine cw_cond rfl (fun h3 => ?_) (fun h3 => ?_)
     · have h5 : ((runes s).all fun c => possC c.v) = false := by
         rw [List.all_eq_false]
         refine ⟨nth (runes s) k, nth_mem hk', ?_⟩
         simp at h3; simp [h3]
       have e : wordOk s = false := by simp [wordOk, h5]
       have e2 : lettersR s = [] := by simp [lettersR, h5]
       refine zr (za rfl (za rfl (nP (cw_ret (post_blk_r (post_then_r (post_then_r (post_blk_r (post_then_r (post_ret2 rfl (resOk_tmp rfl) (resOk_tmp rfl) ?_))))))))))
       exact fun w' hw => ⟨⟨none, 0, 0⟩, by rw [e]; rfl, trivial, by rw [e2]; exact Cl.addNil 21 ((Cl.sel (by exact .nil _)) _ hw)⟩
     · refine cw_skip (post_blk (post_then (cw_region (zm rfl ?_))))
       refine zS rfl (q_add rfl rfl rfl (by intro hc; omega)) ?_
       refine za rfl (sw_nil ?_)
       refine post_next (k + 1) (by exact .cons rfl (.cons rfl .nil)) (fun _ h => h) ⟨by omega, fun j hj => ?_⟩ (by omega)
       by_cases hjk : j = k
       · rw [hjk]; simpa using h3
       · exact hbe j (by omega)
   · have hk' : k = (runes s).length := by simp at h2; omega
     have h5 : ((runes s).all fun c => possC c.v) = true := by
       rw [List.all_eq_true]
       intro x hx
       obtain ⟨i, hi, rfl⟩ := List.getElem_of_mem hx
       rw [← nth_get hi]; exact hbe i (by omega)
     have e2 : lettersR s = runes s := by simp [lettersR, h5, hv]
     refine cw_exit (post_then_x (post_then_x (post_blk_eq (post_then (zr (zm rfl (zm rfl ?_)))))))
     refine zS rfl (q_len rfl (.k rfl (.nil)) (rdO (by exact .head _))) ?_
     refine zS rfl (q_geq rfl rfl rfl) (zm rfl (zm rfl ?_))
     refine zS rfl (q_len rfl (.k rfl (.nil)) (rdO (by exact .head _))) ?_
     refine zS rfl (q_leq rfl rfl rfl) (zS rfl (q_and2 rfl rfl rfl) (za rfl (za rfl (nP (cw_ret (post_ret2 rfl (resOk_tmp rfl) (resOk_tmp rfl) ?_))))))
     refine fun w' hw => ⟨s10, ?_, trivial, by rw [e2]; exact hw⟩
     congr 6
     rw [Bool.eq_iff_iff]
     simp [wordOk, hv, h5]
     omega
theorem stb_mem {α : Type} {w : World} {fp : List Nat} {R : α → World → Prop} {l : List α} (h : Stb w fp fun w' => ∀ x ∈ l, R x w') {x : α} (hx : x ∈ l) : Stb w fp (R x) := ⟨fun w' k => h.stb w' k _ hx⟩
def PrIn (u : Pr) (w : World) : Prop := RdL u.p.v u.pl w
def prOk (u : Pr) : Bool := possC u.c && phonesOk u.pl 3 && decide (0 ≤ u.cost) && decide (u.cost ≤ 1000)
def prsE (l : List Pr) : Int := if 1000 < l.length then 4 else if riseB prC l && l.all prOk then 0 else 2
theorem okPr_spec (l : List Pr) : PredL Tryz.prog 107 #[] (fun u => !prOk u) (fun w => ∀ u ∈ l, PrIn u w) l := by
 intro u hu w hR
 have r1 : Stb w [] (RdL u.p.v u.pl) := rd_stb (hR u hu)
 refine calls_cw (vs := [_]) Tryz.func107 rfl Tryz.ntmps107 rfl (Cl.start0 w) (zr ?_)
 refine sw_x rfl rfl rfl (e_box rfl rfl rfl) (fun b1 => ?_)
 refine za rfl (nP (zr (zS rfl (q_fieldAddr rfl rfl) ?_)))
 refine zS rfl (q_loadC rfl rfl (by exact .head _) rfl) ?_
 refine sw_step rfl rfl rfl (q_call (CanCall.mk Tryz.call76) rfl (.k rfl (.nil)) (fun _ w hw => callq hw (possible_spec _ w))) (zS rfl (q_not rfl rfl) (zm rfl (zS rfl (q_fieldAddr rfl rfl) ?_)))
 refine zS rfl (q_loadC rfl rfl (by exact .head _) rfl) ?_
 refine sw_step rfl rfl rfl (q_call (CanCall.mk Tryz.call63) rfl (.k rfl (.k rfl (.nil))) (fun _ w hw => callq hw (phones_spec _ _ _ w (by exact stb_arg hw (by assumption))))) ?_
 refine zS rfl (q_not rfl rfl) (zS rfl (q_or2 rfl rfl rfl) (zm rfl (zS rfl (q_fieldAddr rfl rfl) ?_)))
 refine zS rfl (q_loadC rfl rfl (by exact .head _) rfl) ?_
 refine zS rfl (q_lss rfl rfl rfl) (zS rfl (q_or2 rfl rfl rfl) (zm rfl (zS rfl (q_fieldAddr rfl rfl) ?_)))
 refine zS rfl (q_loadC rfl rfl (by exact .head _) rfl) ?_
 refine zS rfl (q_gtr rfl rfl rfl) (zS rfl (q_or2 rfl rfl rfl) (za rfl (nP (cw_ret (post_ret1 rfl (resOk_tmp rfl) ?_)))))
 refine fun w' hw => ⟨?_, (Cl.sel (by exact .nil _)) _ hw⟩
 congr 2
 unfold prOk; dsimp only
 have e1 : decide (u.cost < 0) = !decide (0 ≤ u.cost) := by rw [Bool.eq_iff_iff]; simp
 have e2 : decide (1000 < u.cost) = !decide (u.cost ≤ 1000) := by rw [Bool.eq_iff_iff]; simp
 rw [e1, e2]
 cases possC u.c <;> cases phonesOk u.pl 3 <;> cases decide (0 ≤ u.cost) <;> cases decide (u.cost ≤ 1000) <;> rfl
theorem cmpPr_spec (l : List Pr) : CmpL Tryz.prog 105 #[] prC (fun w => ∀ u ∈ l, PrIn u w) l := fun x hx y hy w hR => byPair_spec x y w (rd_stb (hR x hx)) (rd_stb (hR y hy))
theorem all_not_any {α : Type} (p : α → Bool) (l : List α) : (l.any fun x => !p x) = !l.all p := by
 induction l with
 | nil => rfl
 | cons x l ih => simp only [List.any_cons, List.all_cons, ih, Bool.not_and]
theorem pairs_spec (sv : Value) (l : List Pr) (w : World) (hs : Stb w [] (RdL sv l)) (hp : Stb w [] fun w' => ∀ u ∈ l, PrIn u w') : Calls Tryz.prog 61 #[sv] w fun e w' => e = .returned (.int .i64 (prsE l)) ∧ Cl w [] [] w' := by
 have hL := rd_len hs.here
 refine calls_cw (vs := [_]) Tryz.func61 rfl Tryz.ntmps61 rfl (Cl.start0 w) (zr (za rfl (nP (cw_seq (cw_seq (cw_region (zm rfl ?_)))))))
 refine zS rfl (q_len rfl (.k rfl (.nil)) (stA (by assumption))) ?_
 refine zS rfl (q_gtr rfl rfl rfl) (nP ?_)
 refine cw_cond rfl (fun h => ?_) (fun h => ?_)
 · have e : prsE l = 4 := by simp at h; unfold prsE; rw [if_pos (by omega)]
   refine zr (za rfl (nP (cw_ret (post_then_r (post_ret1 rfl (resOk_tmp rfl) ?_)))))
   exact fun w' hw => ⟨by rw [e], hw⟩
 · have h1 : ¬ 1000 < l.length := by simp at h; omega
   refine sP (cw_seq (zr (zm rfl ?_)))
   refine sw_step rfl rfl rfl (q_call (CanCall.mk Tryz.call104) rfl (.k rfl (.k rfl (.nil))) (fun _ w hw => callq hw (risePr_spec _ _ _ _ _ _ w (by exact stb_arg hw (by assumption)) (stb_arg hw hp) (CanCall.mk Tryz.call105) (cmpPr_spec l)))) ?_
   refine zS rfl (q_not rfl rfl) (zm rfl (zm rfl ?_))
   refine sw_step rfl rfl rfl (q_call (CanCall.mk Tryz.call106) rfl (.k rfl (.k rfl (.nil))) (fun _ w hw => callq hw (hasPr_spec _ _ _ _ _ _ w (by exact stb_arg hw (by assumption)) (stb_arg hw hp) (CanCall.mk Tryz.call107) (okPr_spec l)))) ?_
   refine zS rfl (q_or2 rfl rfl rfl) (nP ?_)
   rw [all_not_any]
   refine cw_cond rfl (fun h2 => ?_) (fun h2 => ?_)
   · have e : prsE l = 2 := by
       unfold prsE; rw [if_neg h1, if_neg]
       cases h3 : riseB prC l <;> cases h4 : l.all prOk <;> simp [h3, h4] at h2 ⊢
     refine zr (za rfl (nP (cw_ret (post_then_r (post_ret1 rfl (resOk_tmp rfl) ?_)))))
     exact fun w' hw => ⟨by rw [e], hw⟩
   · have e : prsE l = 0 := by
       unfold prsE; rw [if_neg h1, if_pos]
       cases h3 : riseB prC l <;> cases h4 : l.all prOk <;> simp [h3, h4] at h2 ⊢
     refine sP (zr (za rfl (nP (cw_ret (post_ret1 rfl (resOk_tmp rfl) ?_)))))
     exact fun w' hw => ⟨by rw [e], hw⟩
end Go.Proofs.YtkmbliojafefdaaGreatDoor

set_option autoImplicit false
set_option maxRecDepth 100000
namespace Go.Proofs.YtkmbliojafefdaaGreatDoor
open Go.Sx
def pre (x l : List ByteArray) : Bool := decide (x.length ≤ l.length) && decide (l.take x.length = x)
def offers (p : List Pr) (c : Int) : List Pr := p.filter fun x => decide (x.c = c)
def tryC (rest : List ByteArray → Int) (l : List ByteArray) (x : Pr) : Int := if pre x.pl l = true ∧ 0 ≤ rest (l.drop x.pl.length) then x.cost + rest (l.drop x.pl.length) else -1
def stepC (f : Pr → Int) (b : Int) (x : Pr) : Int := if 0 ≤ f x ∧ (b < 0 ∨ f x < b) then f x else b
def leastC (p : List Pr) : List Rn → List ByteArray → Int
 | [], l => if l = [] then 0 else -1
 | c :: ws, l => (offers p c.v).foldl (stepC (tryC (leastC p ws) l)) (-1)
def pathC (p : List Pr) : List Rn → List ByteArray → List (List ByteArray)
 | [], _ => []
 | c :: ws, l => match (offers p c.v).find? fun x => decide (tryC (leastC p ws) l x = leastC p (c :: ws) l) with
   | some x => x.pl :: pathC p ws (l.drop x.pl.length)
   | none => []
theorem fold_mem (f : Pr → Int) : ∀ (xs : List Pr) (b : Int), xs.foldl (stepC f) b = b ∨ ∃ x ∈ xs, f x = xs.foldl (stepC f) b ∧ 0 ≤ f x
 | [], b => .inl rfl
 | x :: xs, b => by
   rw [List.foldl_cons]
   rcases fold_mem f xs (stepC f b x) with h | ⟨y, hy, h⟩
   · rw [h]
     unfold stepC
     split
     · rename_i h2; exact .inr ⟨x, .head _, rfl, h2.1⟩
     · exact .inl rfl
   · exact .inr ⟨y, .tail _ hy, h⟩
theorem take_fold {β α : Type} [Inhabited α] (g : β → α → β) (b : β) {xs : List α} {k : Nat} (hk : k < xs.length) : (xs.take (k + 1)).foldl g b = g ((xs.take k).foldl g b) (nth xs k) := by
 rw [List.take_succ_eq_append_getElem hk, List.foldl_append, nth_get hk]; rfl
def CostOk (p : List Pr) : Prop := ∀ x ∈ p, 0 ≤ x.cost ∧ x.cost ≤ 1000
theorem offers_mem {p : List Pr} {c : Int} {x : Pr} : x ∈ offers p c ↔ x ∈ p ∧ x.c = c := by simp [offers]
theorem least_bd {p : List Pr} (hp : CostOk p) : ∀ (ws : List Rn) (l : List ByteArray), -1 ≤ leastC p ws l ∧ leastC p ws l ≤ 1000 * ws.length
 | [], l => by unfold leastC; split <;> simp
 | c :: ws, l => by
   show -1 ≤ (offers p c.v).foldl _ (-1) ∧ (offers p c.v).foldl _ (-1) ≤ _
   rcases fold_mem (tryC (leastC p ws) l) (offers p c.v) (-1) with h | ⟨x, hx, h, h0⟩
   · rw [h]; simp; omega
   · rw [← h]
     have h1 := hp x (offers_mem.1 hx).1
     have h2 := least_bd hp ws (l.drop x.pl.length)
     unfold tryC at h0 ⊢
     split
     · simp only [List.length_cons]; omega
     · simp only [List.length_cons]; omega
theorem try_ok {f : List ByteArray → Int} {l : List ByteArray} {x : Pr} (h : 0 ≤ tryC f l x) : pre x.pl l = true ∧ 0 ≤ f (l.drop x.pl.length) := by
 unfold tryC at h
 split at h
 · assumption
 · omega
theorem path_step {p : List Pr} {c : Rn} {ws : List Rn} {l : List ByteArray} (h : 0 ≤ leastC p (c :: ws) l) : ∃ x, (offers p c.v).find? (fun x => decide (tryC (leastC p ws) l x = leastC p (c :: ws) l)) = some x ∧ x ∈ offers p c.v ∧ pre x.pl l = true ∧ 0 ≤ leastC p ws (l.drop x.pl.length) ∧ pathC p (c :: ws) l = x.pl :: pathC p ws (l.drop x.pl.length) := by
 have h1 : ∃ x, (offers p c.v).find? (fun x => decide (tryC (leastC p ws) l x = leastC p (c :: ws) l)) = some x := by
   rw [← Option.isSome_iff_exists, List.find?_isSome]
   rcases fold_mem (tryC (leastC p ws) l) (offers p c.v) (-1) with h2 | ⟨x, hx, h2, h3⟩
   · have : leastC p (c :: ws) l = -1 := h2
     omega
   · exact ⟨x, hx, by rw [decide_eq_true_eq]; exact h2⟩
 obtain ⟨x, hx⟩ := h1
 have h2 := List.find?_some hx
 simp only [decide_eq_true_eq] at h2
 have h3 := try_ok (by rw [h2]; exact h)
 refine ⟨x, hx, List.mem_of_find?_eq_some hx, h3.1, h3.2, ?_⟩
 show (match (offers p c.v).find? _ with | some x => _ | none => _) = _
 rw [hx]
theorem offers_cut {p : List Pr} {c : Int} {fr tq : Nat} (h1 : fr ≤ tq) (h2 : tq ≤ p.length) (hl : ∀ i, i < fr → (nth p i).c ≠ c) (he : ∀ i, fr ≤ i → i < tq → (nth p i).c = c) (hr : ∀ i, tq ≤ i → i < p.length → (nth p i).c ≠ c) : offers p c = (p.take tq).drop fr := by
 have e : p = p.take fr ++ ((p.take tq).drop fr ++ p.drop tq) := by
   rw [← List.append_assoc]
   have : p.take fr = (p.take tq).take fr := by rw [List.take_take, Nat.min_eq_left h1]
   rw [this, List.take_append_drop, List.take_append_drop]
 unfold offers
 conv => lhs; rw [e]
 rw [List.filter_append, List.filter_append]
 have f1 : (p.take fr).filter (fun x => decide (x.c = c)) = [] := by
   rw [List.filter_eq_nil_iff]
   intro x hx
   obtain ⟨i, hi, rfl⟩ := List.getElem_of_mem hx
   simp only [List.length_take] at hi
   have := hl i (by omega)
   rw [nth_get (by omega)] at this
   simpa using this
 have f2 : ((p.take tq).drop fr).filter (fun x => decide (x.c = c)) = (p.take tq).drop fr := by
   rw [List.filter_eq_self]
   intro x hx
   obtain ⟨i, hi, rfl⟩ := List.getElem_of_mem hx
   simp only [List.length_drop, List.length_take] at hi
   have := he (fr + i) (by omega) (by omega)
   rw [nth_get (by omega)] at this
   simpa using this
 have f3 : (p.drop tq).filter (fun x => decide (x.c = c)) = [] := by
   rw [List.filter_eq_nil_iff]
   intro x hx
   obtain ⟨i, hi, rfl⟩ := List.getElem_of_mem hx
   simp only [List.length_drop] at hi
   have := hr (tq + i) (by omega) (by omega)
   rw [nth_get (by omega)] at this
   simpa using this
 rw [f1, f2, f3]; simp
end Go.Proofs.YtkmbliojafefdaaGreatDoor

/-
 Maps keyed by pairs of integers; the two halves of m[k]++ in a draw. General lemmas, no program text.
-/
set_option autoImplicit false
namespace Go.Sx
open Enc (enc val)
section pair
variable {P : Program} {kt : TypeId} {e : TypeId}
end pair
class ArT (P : Program) (t : TypeId) (sz : outParam Nat) (z : outParam (List Value)) : Prop where
 built : ∀ parts, P.built t parts = Instr.fill (fun i => some (i * sz, sz)) z.toArray parts
theorem q_buildA {P : Program} {n : Fr} {E : Env} {C : World → Prop} {cs : List Bool} {o : Oper} {t : TypeId} {ps : List (Nat × Operand)} {vs : List Value} {cells z : List Value} {sz : Nat} (ho : o.op = .build t ps.toArray) (hv : Evs E cs (ps.map (·.2)) vs) [ht : ArT P t sz z]
   (hb0 : Instr.fill (fun i => some (i * sz, sz)) z.toArray ((ps.map (·.1)).zip vs) = some cells.toArray) : OpR P n E C cs o (.agg cells.toArray) :=
 .of_run fun e he hc w _ => by
   have hb := (ht.built ((ps.map (·.1)).zip vs)).trans hb0
   clear hb0
   unfold execOp; simp only [ho]
   have h1 : ps.map (fun (i, x) => (i, e.eval x)) = (ps.map (·.1)).zip vs := by
     rw [← hv.eval he hc]
     clear ho hb hv
     induction ps with
     | nil => rfl
     | cons p ps ih => simp [ih]
   simp only [List.map_toArray, h1]
   simp [run_build (P := P) w t ((ps.map (·.1)).zip vs).toArray cells.toArray hb]
section mem
variable {κ ν : Type} [DecidableEq κ] [Enc κ] [Enc ν] {P : Program} {n : Fr} {E : Env} {C : World → Prop} {cs : List Bool} {o : Oper} {w0 : World} {fp : List Nat} {H : List Asn}
structure EntX (κ ν : Type) where
 es : Ents κ ν
 clock : Nat
 m : Nat
 v : ν
 st : Nat
structure EntXok (z : ν) (l : List (κ × ν)) (k : κ) (X : EntX κ ν) : Prop where
 ok : EntsOk X.es X.clock
 at' : X.es[X.m]? = some (k, X.v, X.st)
 get : ∀ k', getZ z (kvs X.es) k' = getZ z l k'
 put : ∀ u, kvs (X.es.modify X.m fun e => (k, u, e.2.2)) = upd l k u
theorem getZ_push {z : ν} {l : List (κ × ν)} {k : κ} (h : get? l k = none) (k' : κ) : getZ z (l ++ [(k, z)]) k' = getZ z l k' := by
 induction l with
 | nil =>
   simp only [List.nil_append, getZ, get?]
   split <;> rfl
 | cons x l ih =>
   obtain ⟨a, b⟩ := x
   simp only [get?] at h
   split at h
   · cases h
   · have := ih h
     simp only [List.cons_append, getZ, get?] at this ⊢
     split
     · rfl
     · exact this
theorem modify_last {α : Type} (l : List α) (x : α) (f : α → α) : (l ++ [x]).modify l.length f = l ++ [f x] := by
 induction l with
 | nil => rfl
 | cons y l ih => simp [ih]
theorem run_mapEntry {t kt et : TypeId} {z : ν} [ht : MapT P t kt et] [hK : KeyT P kt κ] [hz : ZeroV P et ν z] {w : World} {b clock : Nat} {es : Ents κ ν} (hb : w.heap[b]? = some (mapO es clock)) (ok : EntsOk es clock) (k : κ) :
   ∃ X : EntX κ ν, EntXok z (kvs es) k X ∧ (Instr.mapEntry t (.map (some b)) (val k)).run P w = .ok (.tuple #[val X.v, .int .i64 X.st]) { w with heap := w.heap.setIfInBounds b (mapO X.es X.clock) } := by
 have h1 := hK.find k es w
 have h2 := MapKept.run_getObj_map (P := P) hb
 cases hf : findK k es 0 with
 | none =>
   rw [hf] at h1
   obtain ⟨h3, h5, h4⟩ := findK_none hf
   refine ⟨⟨es ++ [(k, z, clock)], clock + 1, es.length, z, clock⟩, ⟨ok_push ok h3 z, by simp, fun k' => ?_, fun u => ?_⟩, ?_⟩
   · have : kvs (es ++ [(k, z, clock)]) = kvs es ++ [(k, z)] := by simp [kvs]
     rw [this]; exact getZ_push h5 k'
   · rw [h4 u]
     simp only [modify_last]
     simp [kvs]
   · simp [Instr.mapEntry, run_underlying ht.und, h2, hK.chk, h1, hz.zero, MapKept.run_setObj_map _ hb, Result.andThen, mapO, rawE, goInt]
 | some p =>
   rw [hf] at h1
   obtain ⟨j, u⟩ := p
   obtain ⟨m, bb, rfl, h3, _, h4⟩ := findK_some hf
   have e0 : (es.modify m fun e => (k, u, e.2.2)) = es := by
     apply List.ext_getElem?
     intro i
     rw [List.getElem?_modify]
     split
     · rename_i hi; subst hi; rw [h3]; rfl
     · cases es[i]? <;> rfl
   refine ⟨⟨es, clock, m, u, bb⟩, ⟨ok, h3, fun _ => rfl, h4⟩, ?_⟩
   have e1 : ((es.map rawE).toArray[0 + m]?.map (·.key)).getD (val k) = val k := by rw [Nat.zero_add, raw_get, h3]; rfl
   have e2 : ((es.map rawE).toArray[m]?.map (fun x => (x.born : Int))).getD 0 = (bb : Int) := by rw [raw_get, h3]; rfl
   have e3 : ((es.map rawE).toArray.modify m fun e => { e with key := val k }) = (es.map rawE).toArray := by
     apply Array.ext_getElem?
     intro i
     simp only [Array.getElem?_modify, raw_get]
     split
     · rename_i hi; subst hi; rw [h3]; rfl
     · rfl
   simp only [Instr.mapEntry, Sem.run_bind, run_underlying ht.und, Result.andThen, h2, hK.chk, h1, Option.map_some, e1, hK.stays, MapKept.run_setObj_map _ hb, mapO]
   rw [Nat.zero_add, e3, e2]
   rfl
theorem e_mapEntry {t kt et : TypeId} {z : ν} {x y : Operand} {cx cy : List Bool} {b i : Nat} {k : κ} {l : List (κ × ν)} (ho : o.op = .mapEntry t x y) (hx : evl E x = some (cx, .map (some b))) (hy : evl E y = some (cy, val k))
   [sx : Sub cx []] [sy : Sub cy []] [ht : MapT P t kt et] [hK : KeyT P kt κ] [hz : ZeroV P et ν z] (hi : nthA H i = some (mpA b l)) :
   OpE P n E (Cl w0 fp H) o (fun u w' => ∃ X : EntX κ ν, u = .tuple #[val X.v, .int .i64 X.st] ∧ EntXok z l k X ∧ Cl w0 fp (setA H i (obj b (mapO X.es X.clock))) w') :=
 .of_run fun a w ha hw => by
   obtain ⟨bs, ⟨b1, b2, rfl, ⟨rfl, es, clock, ok, rfl, hb⟩, rfl⟩, _, hlt, _, _, h6⟩ := (hw.focus hi).split
   obtain ⟨X, hX, hr⟩ := run_mapEntry (P := P) (t := t) (z := z) hb ok k
   have hl : b < w.heap.size := hlt b (by simp)
   refine ⟨_, { w with heap := w.heap.setIfInBounds b (mapO X.es X.clock) }, ?_, X, rfl, hX, (h6 [obj b (mapO X.es X.clock)] _ ?_).set hi⟩
   · have e1 := ha.eval hx sx AllT.nil
     have e2 := ha.eval hy sy AllT.nil
     unfold execOp; simp only [ho]; rw [e1, e2]; simp [hr, Result.andThen]
   · refine ⟨⟨rfl, rfl, rfl, by simp, fun k hk hn => ?_⟩, [b], ⟨[b], [], rfl, ⟨rfl, ?_⟩, rfl⟩, by simp, fun k hk => ?_⟩
     · have : k ≠ b := by simpa using hn
       exact Array.getElem?_setIfInBounds_ne (Ne.symm this)
     · simp [hl]
     · simp at hk; subst hk; exact ⟨.inl (by simp), by simpa using hl⟩
theorem e_entryStore {t : TypeId} {z : ν} {x y u : Operand} {cx cy cu : List Bool} {b i : Nat} {k : κ} {v : ν} {l : List (κ × ν)} {X : EntX κ ν} (ho : o.op = .entryStore t x y u) (hx : evl E x = some (cx, .map (some b))) (hy : evl E y = some (cy, .int .i64 X.st)) (hu : evl E u = some (cu, val v))
   [sx : Sub cx []] [sy : Sub cy []] [su : Sub cu []] (hX : EntXok z l k X) (hi : nthA H i = some (obj b (mapO X.es X.clock))) :
   OpE P n E (Cl w0 fp H) o (fun uu w' => uu = undef ∧ Cl w0 fp (setA H i (mpA b (upd l k v))) w') :=
 .of_run0 fun a w ha hw => by
   obtain ⟨bs, ⟨b1, b2, rfl, ⟨rfl, hb⟩, rfl⟩, _, hlt, _, _, h6⟩ := (hw.focus hi).split
   have hl : b < w.heap.size := hlt b (by simp)
   have h2 := MapKept.run_getObj_map (P := P) (w := w) (es := (X.es.map rawE).toArray) (clock := X.clock) hb
   have hm := hX.at'
   have hlt' : X.m < X.es.length := (List.getElem?_eq_some_iff.1 hm).1
   have hge : X.es[X.m] = (k, X.v, X.st) := (List.getElem?_eq_some_iff.1 hm).2
   have hfind : (X.es.map rawE).toArray.findIdx? (fun e => (e.born : Int) == (X.st : Int)) = some X.m := by
     rw [List.findIdx?_toArray, List.findIdx?_eq_some_iff_getElem]
     refine ⟨by simpa using hlt', by simp [rawE, hge], fun j hj => ?_⟩
     have hjl : j < X.es.length := by omega
     have hnd := List.pairwise_iff_getElem.1 hX.ok.born j X.m (by simpa using hjl) (by simpa using hlt') hj
     simp only [List.getElem_map, hge] at hnd
     simp [rawE]
     omega
   refine ⟨{ w with heap := w.heap.setIfInBounds b (mapO (X.es.modify X.m fun e => (k, v, e.2.2)) X.clock) }, ?_, (h6 [mpA b (upd l k v)] _ ?_).set hi⟩
   · have e1 := ha.eval hx sx AllT.nil
     have e2 := ha.eval hy sy AllT.nil
     have e3 := ha.eval hu su AllT.nil
     have e4 : ((X.es.map rawE).toArray.modify X.m fun e => { e with val := val v }) = ((X.es.modify X.m fun e => (k, v, e.2.2)).map rawE).toArray := by
       apply Array.ext_getElem?
       intro i
       simp only [Array.getElem?_modify, raw_get, List.getElem?_modify]
       split
       · rename_i hi; subst hi; rw [hm]; rfl
       · cases X.es[i]? <;> rfl
     unfold execOp; simp only [ho]; rw [e1, e2, e3]
     have e5 : (Instr.entryStore t (.map (some b)) (.int .i64 X.st) (val v)).run P w = .ok () { w with heap := w.heap.setIfInBounds b (mapO (X.es.modify X.m fun e => (k, v, e.2.2)) X.clock) } := by
       have e6 : (asInt (.int .i64 (X.st : Int))).run P w = .ok (X.st : Int) w := rfl
       unfold Instr.entryStore
       simp only [Sem.run_bind, h2, Result.andThen, e6, hfind, e4, MapKept.run_setObj_map _ hb, mapO]
     simp [e5, Result.andThen]
   · refine ⟨⟨rfl, rfl, rfl, by simp, fun k hk hn => ?_⟩, [b], ⟨[b], [], rfl, ⟨rfl, _, X.clock, ok_modify hX.ok hm v, hX.put v, ?_⟩, rfl⟩, by simp, fun k hk => ?_⟩
     · have : k ≠ b := by simpa using hn
       exact Array.getElem?_setIfInBounds_ne (Ne.symm this)
     · simp [hl]
     · simp at hk; subst hk; exact ⟨.inl (by simp), by simpa using hl⟩
end mem
end Go.Sx

/- Interfaces: values put in, asserted, methods called. General lemmas, no program text. -/
set_option autoImplicit false
namespace Go.Sx
open Enc (enc val)
section
variable {P : Program} {n : Fr} {E : Env} {C : World → Prop} {cs : List Bool} {o : Oper}
end
section
variable {P : Program} {n : Fr} {E : Env} {cs : List Bool} {o : Oper} {w0 : World} {fp : List Nat} {H : List Asn}
end
end Go.Sx

/-
 A slice that grows while a part of it is read through another name. General lemmas, no program text.
-/
set_option autoImplicit false
namespace Go.Sx
open Enc (enc val)
section
variable {α : Type} [Enc α] {e : TypeId}
variable {s : SlV} {l : List α} {s0 : SlV} {l0 : List α} {w0 w : World} {fp : List Nat} {H F : List Asn}
end
section
variable {α : Type} [Enc α] {P : Program} {ops : Array Oper} {n : Fr} {E : Env} {C : World → Prop} {cs : List Bool} {o : Oper} {w0 : World} {fp : List Nat} {H : List Asn}
end
end Go.Sx

/- Maps whose keys are structs of two integers; v, ok := m[k]; x[a:b:c]; the table's rows. General lemmas, no program text. -/
set_option autoImplicit false
namespace Go.Sx
open Enc (enc val)
section
variable {κ ν : Type} [DecidableEq κ] [Enc κ] [Enc ν] {P : Program} {n : Fr} {E : Env} {C : World → Prop} {cs : List Bool} {o : Oper}
end
section
variable {α : Type} [Enc α] {P : Program} {n : Fr} {E : Env} {C : World → Prop} {cs : List Bool} {o : Oper}
def BlkIs (b k : Nat) (y : α) (w : World) : Prop := ∀ j v, (enc y)[j]? = some v → w.cell? ⟨b, k + j, none⟩ = some v
theorem blkIs_of {b k : Nat} {cells : List Value} {t : TypeId} {y : α} {w : World} (h : BlkAt b cells t w) (hc : ∀ j v, (enc y)[j]? = some v → cells[k + j]? = some v) : BlkIs b k y w := fun j v hv => by
 obtain ⟨bs, hb⟩ := h
 rw [blk.cell hb]; exact hc j v hv
theorem q_loadI {t : TypeId} {x : Operand} {cx : List Bool} {b k : Nat} {y : α} (ho : o.op = .load t x) (hx : evl E x = some (cx, .pointer (some ⟨b, k, none⟩))) [hs : Sub cx cs] [ht : HasTy P t α]
   (hH : ∀ w, C w → BlkIs b k y w) : OpR P n E C cs o (val y) :=
 load_run ho hx hs fun _ w hw => ⟨_, rfl, ht.load w _ _ fun j v hv => by rw [addr_add]; exact hH w hw j v hv⟩
theorem q_loadElY [Inhabited α] {t : TypeId} {x : Operand} {cx : List Bool} {sv : Value} {i sz : Nat} {xs : List α} {y : α} (hy : nth xs i = y) (ho : o.op = .load t x) (hx : evl E x = some (cx, elP sv i sz 0)) [hs : Sub cx cs] [ht : HasTy P t α]
   (hsz : sz = Enc.sz α) (hR : ∀ w, C w → RdL sv xs w) (hi : AllT cs → i < xs.length) : OpR P n E C cs o (val y) := by
 rw [← hy]; exact q_loadEl ho hx hsz hR hi
def SlV.row (s : SlV) (sz lo hi : Nat) : SlV := ⟨if hi = lo then s.addr else s.addr.map (·.add (lo * sz)), hi - lo, hi - lo⟩
theorem rd_row {s : SlV} {l : List α} {w : World} (h : RdL s.v l w) {a b : Nat} (hab : a ≤ b) (hb : b ≤ l.length) : RdL (s.row (Enc.sz α) a b).v ((l.take b).drop a) w := by
 obtain ⟨l1, l2, l3⟩ := rd_lens h
 by_cases e : b = a
 · subst e
   have : (l.take b).drop b = [] := by rw [List.drop_eq_nil_iff]; simp; omega
   rw [this]
   exact ⟨_, _, _, rfl, by simp [SlV.row], by simp [SlV.row], by simp [SlV.row, maxLen], fun i x j v hx => by simp at hx⟩
 · have h2 := rd_sub h hab hb
   obtain ⟨ad, n, cap, h3, h4, h5, h6, h7⟩ := h2
   have hc : s.cap ≠ a := by omega
   simp only [SlV.sub, SlV.v, hc, if_false, Value.slice.injEq] at h3
   obtain ⟨rfl, rfl, rfl⟩ := h3
   refine ⟨s.addr.map (·.add (a * Enc.sz α)), b - a, b - a, by simp [SlV.row, SlV.v, e], h4, Nat.le_refl _, by omega, fun i x j v hx hv => h7 i x j v hx hv⟩
theorem q_slice3 {t e : TypeId} {sz : Nat} {x y z u : Operand} {cx cy cz cu : List Bool} {s : SlV} {l : List α} {a b : Int} (ho : o.op = .slice t x (some y) (some z) (some u)) (hx : evl E x = some (cx, s.v)) (hy : evl E y = some (cy, .int .i64 a)) (hz : evl E z = some (cz, .int .i64 b)) (hu : evl E u = some (cu, .int .i64 b))
   [sx : Sub cx cs] [sy : Sub cy cs] [sz' : Sub cz cs] [su : Sub cu cs] [ht : SlT P t e] [hs : SzT P e sz] (hrd : ∀ w, C w → RdL s.v l w) (h : AllT cs → 0 ≤ a ∧ a ≤ b ∧ b ≤ l.length) : OpR P n E C cs o (s.row sz a.toNat b.toNat).v :=
 .of_run fun e he hc w hw => by
   obtain ⟨h1, h2, h3⟩ := h hc
   obtain ⟨l1, l2, l3⟩ := rd_lens (hrd w hw)
   unfold execOp; simp only [ho]
   have e1 := he.eval hx sx hc
   have e2 := he.eval hy sy hc
   have e3 := he.eval hz sz' hc
   have e4 := he.eval hu su hc
   have f1 := run_sliceBound (P := P) (w := w) .i64 b s.cap .slice3Acap (by omega) (by omega)
   have f2 := run_sliceBound (P := P) (w := w) .i64 b b.toNat .slice3B (by omega) (by omega)
   have f3 := run_sliceBound (P := P) (w := w) .i64 a b.toNat .slice3C (by omega) (by omega)
   have hb : (Instr.sliceBounds true s.len s.cap (some (.int .i64 a)) (some (.int .i64 b)) (some (.int .i64 b))).run P w = .ok (a.toNat, b.toNat, b.toNat) w := by
     simp [Instr.sliceBounds, f1, f2, f3, Result.andThen]
   have g1 := run_underlying (P := P) (w := w) ht.und
   simp [e1, e2, e3, e4, Instr.sliceAt, Instr.slice, g1, hb, hs.sz, Result.andThen, SlV.v, SlV.row]
theorem elP_row {s : SlV} {lo hi sz i off : Nat} (h : hi ≠ lo) : elP (s.row sz lo hi).v i sz off = elP s.v (lo + i) sz off := by
 cases ha : s.addr with
 | none => simp [elP, SlV.row, SlV.v, h, ha]
 | some a =>
   simp [elP, SlV.row, SlV.v, h, ha]
   rw [addr_add_assoc, Nat.add_mul, Nat.add_assoc]
theorem q_indexRow {t e : TypeId} {x y : Operand} {cx cy : List Bool} {s : SlV} {lo hi sz : Nat} {k : IntKind} {i : Int} {xs : List α} (ho : o.op = .indexAddr t x y) (hx : evl E x = some (cx, (s.row sz lo hi).v)) (hy : evl E y = some (cy, .int k i))
   [sx : Sub cx cs] [sy : Sub cy cs] [ht : SlT P t e] [hz : SzT P e sz] (hR : ∀ w, C w → RdL s.v xs w) (hsz : sz = Enc.sz α) (h : AllT cs → 0 ≤ i ∧ lo + i.toNat < hi ∧ hi ≤ xs.length) : OpR P n E C cs o (elP s.v (lo + i.toNat) sz 0) := by
 intro a ha hc w hw
 have hh := h hc
 subst hsz
 have := q_index (P := P) (n := n) (E := E) (C := C) (cs := cs) (o := o) (xs := (xs.take hi).drop lo) ho hx hy (fun w hw => rd_row (hR w hw) (by omega) (by omega)) (fun _ => by simp; omega) a ha hc w hw
 rwa [elP_row (by omega)] at this
end
end Go.Sx
