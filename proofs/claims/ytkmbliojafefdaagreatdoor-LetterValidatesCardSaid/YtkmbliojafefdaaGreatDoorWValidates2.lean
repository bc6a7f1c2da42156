import Derived.Test.YtkmbliojafefdaaGreatDoorWValidates1
import Derived.Test.YtkmbliojafefdaaGreatDoorRows
import Derived.LaidMore
import Derived.Lay
import Derived.Stop.Joined
import Derived.Test.YtkmbliojafefdaaGreatDoorVValidates1

set_option autoImplicit false
set_option linter.unusedSimpArgs false
set_option linter.unusedVariables false
set_option maxRecDepth 100000
set_option maxHeartbeats 2000000
namespace Go.Proofs.YtkmbliojafefdaaGreatDoor
open Go.Sx
open Enc (enc val)
def entS (p : List Pr) (u : Sp) : Ent := (u.word, alP p u.word u.pl, u.pl)
theorem selA_skip {α : Type} [Inhabited α] {l : List α} {m f i : Nat} (hm : 1 ≤ m) (h : i % m = f) : ∀ d, d ≤ m - 1 → selA l m f true (i + 1 + d) = selA l m f true (i + 1)
 | 0, _ => rfl
 | d + 1, hd => by
   have e : i + 1 + (d + 1) = (i + 1 + d) + 1 := by omega
   rw [e, selA_succ, selA_skip hm h d (by omega), if_neg, List.append_nil]
   have h1 : (i + 1 + d) % m ≠ f := by
     intro h2
     have h3 : (i + 1 + d - i) % m = 0 := by
       have := Nat.sub_mod_eq_zero_of_mod_eq (h2.trans h.symm)
       exact this
     rw [show i + 1 + d - i = d + 1 by omega, Nat.mod_eq_of_lt (by omega)] at h3
     omega
   simp [h1]
theorem selA_jump {α : Type} [Inhabited α] {l : List α} {m f i N : Nat} (hm : 1 ≤ m) (h : i % m = f) (hi : i < N) : selA l m f true (min (i + m) N) = selA l m f true i ++ [nth l i] := by
 have h1 : selA l m f true (i + 1) = selA l m f true i ++ [nth l i] := by
   rw [selA_succ, if_pos (by simp [h])]
 have h2 : min (i + m) N = i + 1 + (min (i + m) N - (i + 1)) := by omega
 rw [h2, selA_skip hm h _ (by omega), h1]
theorem selA_none {α : Type} [Inhabited α] {l : List α} {m f : Nat} (hf : f < m) : ∀ k, k ≤ f → selA l m f true k = []
 | 0, _ => rfl
 | k + 1, hk => by
   rw [selA_succ, selA_none hf k (by omega), if_neg, List.nil_append]
   have : k % m = k := Nat.mod_eq_of_lt (by omega)
   simp [this]; omega
theorem evR_app (a b : List XR) : evR (a ++ b) = evR a ++ evR b := by unfold evR; rw [List.map_append]
theorem evR_flat : ∀ (ll : List (List XR)), evR ll.flatten = ll.flatMap evR
 | [] => rfl
 | a :: ll => by rw [List.flatten_cons, evR_app, List.flatMap_cons, evR_flat ll]
structure ExsOk (p : List Pr) (u : Sp) (ys : List XR) : Prop where
 ev : evR ys = evOf (u.word, alP p u.word u.pl)
 al : alOk p u.word u.pl = true
 ok : ∀ e ∈ ys, RxOk e
theorem ExsOk.len {p : List Pr} {u : Sp} {ys : List XR} (h : ExsOk p u ys) : ys.length = (runes u.word).length := by
 have := congrArg List.length h.ev
 rwa [evR_len, evOf_len2] at this
theorem ExsOk.get {p : List Pr} {u : Sp} {ys : List XR} (h : ExsOk p u ys) {i : Nat} (hi : i < ys.length) : (nth ys i).wl = runes u.word ∧ (nth ys i).at_ = i ∧ (nth ys i).pl = nth (alP p u.word u.pl) i := by
 have h1 := congrArg (fun z => z[i]?) h.ev
 have hi2 : i < (runes u.word).length := by rw [← h.len]; exact hi
 unfold evR evOf at h1
 simp only [List.getElem?_map, List.getElem?_eq_getElem hi, Option.map_some, List.getElem?_range hi2, Option.some.injEq] at h1
 rw [nth_get hi]
 have h2 := congrArg Prod.snd h1
 have e1 := congrArg (fun z : XP => z.1) h2
 have e2 := congrArg (fun z : XP => z.2.1) h2
 have e3 := congrArg (fun z : XP => z.2.2) h2
 exact ⟨e1, e2, e3⟩
def AllIn (vs : List SlV) (ll : List (List XR)) (w : World) : Prop := ∀ i, i < ll.length → RdL (nth vs i).v (nth ll i) w ∧ ∀ e ∈ nth ll i, RxIn e w
theorem refValidate_spec (sl sp : SlV) (l : List Sp) (p : List Pr) (o : Lrn) (m : Nat) (hm : 2 ≤ m ∧ m ≤ 10) (h0 : optE l p o = 0) (f1 : l.length ≤ 8) (f2 : ∀ u ∈ l, u.word.size ≤ 12 ∧ u.pl.length ≤ 20) (w : World) (hT : Stb w [] Tab) (hs : Stb w [] (RdL sl.v l)) (hsi : Stb w [] fun w' => ∀ u ∈ l, SpIn u w') (hp : Stb w [] (RdL sp.v p)) (hpi : Stb w [] fun w' => ∀ u ∈ p, PrIn u w') :
   Calls Tryz.prog 56 #[sl.v, sp.v, val o, .int .i64 m] w fun e w' => e = .returned (val (scoreC o (ent3 p l) m)) ∧ Cl w [] [] w' := by
 have hL1 := rd_len hs.here
 have hL2 := rd_len hp.here
 obtain ⟨o1, o2, o3⟩ := optE_zero h0
 obtain ⟨y1, y2, y3, y4, y5⟩ := prsE_zero o2
 have o4 := (lexE_zero2 o1).2
 refine calls_cw (vs := [_, _, _, _]) Tryz.func56 rfl Tryz.ntmps56 rfl (Cl.start0 w) (zr ?_)
 refine sw_x rfl rfl rfl (e_box rfl rfl rfl) (fun b6 => ?_)
 refine sw_x rfl rfl rfl (e_alloc rfl) (fun b8 => ?_)
 refine nP (zr (za rfl (sw_nil (post_then (cw_seq (cw_region (za rfl (sw_nil (post_then (cw_seq (cw_seq (cw_region (za rfl (sw_nil (post_then (cw_block ?_))))))))))))))))
 refine cw_loop (S := Nat × SlV × SlV × List SlV × List (List XR) × List Sp) (fun y => [(0, [], sl.v), (1, [], sp.v), (3, [], .int .i64 m), (6, [], .pointer (some ⟨b6, 0, none⟩)), (8, [], .pointer (some ⟨b8, 0, none⟩)), (9, [], y.2.1.v), (10, [], y.2.2.1.v), (11, [], .int .i64 y.1)]) (fun y => Cl w [] [ownL 53 y.2.1.v y.2.2.2.1, ownL 56 y.2.2.1.v y.2.2.2.2.2, Sx.frz (AllIn y.2.2.2.1 y.2.2.2.2.1), blk b8 (enc (default : Scr)) 98, blk b6 (enc o) 40]) (fun y => y.1 ≤ l.length ∧ (y.2.2.2.1.length = y.2.2.2.2.1.length ∧ y.2.2.2.2.2.length = y.2.2.2.2.1.length ∧ y.2.2.2.2.1.length ≤ y.1) ∧ (∀ u ∈ y.2.2.2.2.2, u ∈ l) ∧ (∀ k, k < y.2.2.2.2.1.length → ExsOk p (nth y.2.2.2.2.2 k) (nth y.2.2.2.2.1 k)) ∧ y.2.2.2.2.2.map (entS p) = ent3 p (l.take y.1)) (fun y => l.length - y.1) (0, ⟨none, 0, 0⟩, ⟨none, 0, 0⟩, [], [], []) ⟨Nat.zero_le _, ⟨rfl, rfl, Nat.le_refl _⟩, fun u hu => by simp at hu, fun k hk => by simp at hk, rfl⟩ (by exact .cons rfl (.cons rfl (.cons rfl (.cons rfl (.cons rfl (.cons rfl (.cons rfl (.cons rfl .nil)))))))) (fun w' h => ?_) ?_
 · have h1 : Cl w [] [blk b8 (enc (default : Scr)) 98, blk b6 (enc o) 40] w' := (Cl.sel (by exact .take 0 rfl (.take 0 rfl (.nil _)))) _ h
   have h2 : Cl w [] [ownL 53 (SlV.v ⟨none, 0, 0⟩) ([] : List SlV), ownL 56 (SlV.v ⟨none, 0, 0⟩) ([] : List Sp), blk b8 (enc (default : Scr)) 98, blk b6 (enc o) 40] w' := Cl.addNil (α := SlV) 53 (Cl.addNil (α := Sp) 56 h1)
   exact (Cl.sel (by exact .take 1 rfl (.take 1 rfl (.take 0 rfl (.take 0 rfl (.take 0 rfl (.nil _))))))) _ (Cl.frz (H := []) (R := AllIn [] []) h2 fun w _ _ i hi => by simp at hi)
 rintro ⟨i, sa, se, vx, LL, el⟩ ⟨hi, ⟨hvl, hel, hll⟩, helm, hex, hent⟩
 dsimp only at hi hvl hel hll helm hex hent ⊢
 refine cw_seq (zr (zm rfl (zm rfl ?_)))
 refine zS rfl (q_len rfl (.k rfl (.nil)) (stA (by assumption))) ?_
 refine zS rfl (q_lss rfl rfl rfl) (nP ?_)
 refine cw_cond rfl (fun h => ?_) (fun h => ?_)
 · have hi' : i < l.length := by simp at h; omega
   obtain ⟨u, hu⟩ : ∃ u, nth l i = u := ⟨_, rfl⟩
   have hum : u ∈ l := by rw [← hu]; exact nth_mem hi'
   obtain ⟨g2, g3⟩ := f2 _ hum
   have g1 := (o4 _ hum).1
   have gu : Stb w [] (SpIn u) := stb_map hsi fun _ h => h _ hum
   have het := ent3_take (p := p) hi'
   rw [hu] at het
   refine sP (cw_seq (cw_block (zr (zm rfl (zm rfl (zm rfl ?_))))))
   refine zS rfl (q_indexN rfl rfl rfl (stA (by assumption)) (by intro hc; omega)) ?_
   refine zS rfl (q_loadEl rfl rfl rfl (stA (by assumption)) (by intro hc; omega)) ?_
   rw [hu]
   refine sw_x rfl rfl rfl (e_call (CanCall.mk Tryz.call34) rfl (.k rfl (.k rfl (.nil))) (fun w2 hw => examples_spec sp p u (by omega) y2 (fun x hx => by have := y3 x hx; omega) g1 (by omega) (by omega) w2 (stb_arg hw hT) (stb_arg hw hp) (stb_arg hw hpi) (stb_arg hw gu))) (fun y => ?_)
   refine sw_imp fun hy => ?_
   obtain ⟨sy, ys⟩ := y
   obtain ⟨hyA, hyB⟩ := hy
   dsimp only at hyA hyB ⊢
   have hys : ys.length = if alOk p u.word u.pl = true then (runes u.word).length else 0 := by
     have e1 := congrArg List.length hyA
     rw [evR_len] at e1
     rw [e1]
     unfold evU
     split
     · rw [evOf_len2]
     · rfl
   have hr1 : 1 ≤ (runes u.word).length ∧ (runes u.word).length ≤ 40 := by
     have := g1; simp [wordOk] at this; omega
   have hyl : ys.length ≤ 40 := by rw [hys]; split <;> omega
   refine za rfl (nP (zr (zm rfl ?_)))
   refine zS rfl (q_len (xs := ys) rfl (.k rfl (.nil)) (fun w1 h1 => (rd_frz (R := fun w => RdL sy.v ys w ∧ ∀ e ∈ ys, RxIn e w) h1 (by exact .head _)).1)) ?_
   refine zS rfl (q_gtr rfl rfl rfl) (nP ?_)
   refine cw_cond rfl (fun h2 => ?_) (fun h2 => ?_)
   · have hal : alOk p u.word u.pl = true := by
       cases hx : alOk p u.word u.pl with
       | true => rfl
       | false =>
         rw [hx, if_neg (by decide)] at hys
         simp [hys] at h2
     rw [if_pos hal] at het
     have hxo : ExsOk p u ys := ⟨by rw [hyA]; unfold evU; rw [if_pos hal], hal, hyB⟩
     refine zr (zm rfl (zm rfl ?_))
     refine sw_x rfl rfl rfl (e_build1 (α := SlV) rfl rfl rfl rfl) (fun s40 => ?_)
     refine sw_x rfl rfl rfl (e_append (i := 2) rfl (.k rfl (.k rfl (.nil))) rfl rfl (rdO (by exact .head _)) (by first | omega | (simp only [List.length_set, List.length_append, List.length_cons, List.length_nil, List.length_replicate, List.length_take, List.length_drop, List.length_map]; omega)) rfl) (fun s41 => ?_)
     refine za rfl (nP (cw_region (zm rfl (zm rfl (zm rfl ?_)))))
     refine zS rfl (q_indexN rfl rfl rfl (stA (by assumption)) (by intro hc; omega)) ?_
     refine zS rfl (q_loadEl rfl rfl rfl (stA (by assumption)) (by intro hc; omega)) ?_
     rw [hu]
     refine sw_x rfl rfl rfl (e_buildL (α := Sp) (l := [u]) rfl (.k rfl (.nil)) rfl rfl rfl rfl) (fun s47 => ?_)
     refine sw_x rfl rfl rfl (e_append (α := Sp) (i := 4) rfl (.k rfl (.k rfl (.nil))) rfl rfl (rdO (by exact .head _)) (by simp; omega) rfl) (fun s48 => ?_)
     refine za rfl (sw_nil (post_blk (post_then (cw_region (zm rfl ?_)))))
     refine zS rfl (q_add rfl rfl rfl (by intro hc; omega)) ?_
     refine za rfl (sw_nil ?_)
     have hap : ∀ {β : Type} [Inhabited β] (a : List β) (x : β), nth (a ++ [x]) a.length = x := fun a x => by
       rw [nth_get (by simp)]; simp
     have hal2 : ∀ {β : Type} [Inhabited β] (a : List β) (x : β) (i : Nat), i < a.length → nth (a ++ [x]) i = nth a i := fun a x i hi => by
       rw [nth_get (by simp; omega), nth_get hi, List.getElem_append_left hi]
     refine post_next (i + 1, s41, s48, vx ++ [sy], LL ++ [ys], el ++ [u]) (by exact .cons rfl (.cons rfl (.cons rfl (.cons rfl (.cons rfl (.cons rfl (.cons rfl (.cons rfl .nil)))))))) (fun w' h => ?_) ⟨by simp only; omega, ⟨by simp [hvl], by simp [hel], by simp; omega⟩, fun q hq => ?_, fun k hk => ?_, ?_⟩ (by simp only; omega)
     · have h1 : Cl w [] ([Sx.frz (fun w => RdL sy.v ys w ∧ ∀ e ∈ ys, RxIn e w), Sx.frz (AllIn vx LL)] ++ [ownL 53 s41.v (vx ++ [sy]), ownL 56 s48.v (el ++ [u]), blk b8 (enc (default : Scr)) 98, blk b6 (enc o) 40]) w' := (Cl.sel (by exact .take 2 rfl (.take 4 rfl (.take 2 rfl (.take 2 rfl (.take 2 rfl (.take 2 rfl (.nil _)))))))) _ h
       exact (Cl.sel (by exact .take 1 rfl (.take 1 rfl (.take 0 rfl (.take 0 rfl (.take 0 rfl (.nil _))))))) _ (Cl.frz (R := AllIn (vx ++ [sy]) (LL ++ [ys])) h1 fun w bs ⟨_, _, _, j1, _, _, _, j2, _⟩ k hk => by
         by_cases g : k < LL.length
         · rw [hal2 _ _ _ g, hal2 _ _ _ (by omega)]
           exact frz_here j2 k g
         · have g2 : k = LL.length := by simp at hk; omega
           subst g2
           rw [hap]
           have e1 := hap vx sy
           rw [hvl] at e1
           rw [e1]
           exact frz_here j1)
     · rcases List.mem_append.1 hq with hq | hq
       · exact helm q hq
       · simp at hq; subst hq; exact hum
     · simp only at hk ⊢
       by_cases g : k < LL.length
       · rw [hal2 _ _ _ g, hal2 _ _ _ (by omega)]
         exact hex k g
       · have g2 : k = LL.length := by simp at hk; omega
         subst g2
         rw [hap]
         have e1 := hap el u
         rw [hel] at e1
         rw [e1]
         exact hxo
     · simp only
       rw [het, ← hent, List.map_append]; rfl
   · have hal : ¬ alOk p u.word u.pl = true := by
       intro hx
       rw [if_pos hx] at hys
       have h3 : ¬ (0 : Int) < ys.length := by simpa only [decide_eq_false_iff_not] using h2
       omega
     rw [if_neg hal, List.append_nil] at het
     refine cw_skip (post_blk (post_then (cw_region (zm rfl ?_))))
     refine zS rfl (q_add rfl rfl rfl (by intro hc; omega)) ?_
     refine za rfl (sw_nil ?_)
     exact post_next (i + 1, sa, se, vx, LL, el) (by exact .cons rfl (.cons rfl (.cons rfl (.cons rfl (.cons rfl (.cons rfl (.cons rfl (.cons rfl .nil)))))))) (Cl.sel (by exact .take 1 rfl (.take 1 rfl (.take 1 rfl (.take 1 rfl (.take 1 rfl (.nil _))))))) ⟨by simp only; omega, ⟨hvl, hel, by simp only; omega⟩, helm, hex, by rw [het]; exact hent⟩ (by simp only; omega)
 · have hi' : i = l.length := by simp at h; omega
   subst hi'
   rw [List.take_length] at hent
   refine cw_reb (A := [blk b8 (enc (default : Scr)) 98, blk b6 (enc o) 40]) (F := [ownL 53 sa.v vx, ownL 56 se.v el, Sx.frz (AllIn vx LL)]) (fun w h => (Cl.sel (by exact .take 3 rfl (.take 3 rfl (.take 0 rfl (.take 0 rfl (.take 0 rfl (.nil _))))))) _ h) fun w1 bs R => ?_
   have hva := R.own (e := 53) (sv := sa.v) (l := vx) (by exact .head _)
   have hea := R.own (e := 56) (sv := se.v) (l := el) (by exact .tail _ (.head _))
   have hai := R.frz (R := AllIn vx LL) (by exact .tail _ (.tail _ (.head _)))
   have hsi1 := R.stb hsi
   have hLv := rd_len hva.here
   have hLe := rd_len hea.here
   obtain ⟨E, hE⟩ : ∃ E, ent3 p l = E := ⟨_, rfl⟩
   rw [hE] at hent ⊢
   have hEl : E.length = LL.length := by rw [← hent]; simp [hel]
   have hEat : ∀ k, k < LL.length → nth E k = entS p (nth el k) := fun k hk => by
     rw [← hent, nth_mapL _ (by omega)]
   have hL8 : LL.length ≤ 8 := by omega
   refine cw_exit (post_then_x (post_then_x (post_blk_eq (post_then (zr ?_)))))
   refine sw_x rfl rfl rfl (e_alloc rfl) (fun b13 => ?_)
   refine nP (cw_seq (zr (za rfl (sw_nil (post_then (cw_block ?_))))))
   refine cw_loop (S := Nat × Scr) (fun y => [(3, [], .int .i64 m), (6, [], .pointer (some ⟨b6, 0, none⟩)), (8, [], .pointer (some ⟨b8, 0, none⟩)), (9, [], sa.v), (10, [], se.v), (13, [], .pointer (some ⟨b13, 0, none⟩)), (14, [], .int .i64 y.1)]) (fun y => Cl w1 bs [blk b13 (enc y.2) 98, blk b8 (enc (default : Scr)) 98, blk b6 (enc o) 40]) (fun y => y.1 ≤ m ∧ y.2 = (List.range y.1).foldl (foldE o E m) ⟨0, 0, 0, 0⟩ ∧ ScrB y.2 (96 * y.1)) (fun y => m - y.1) (0, ⟨0, 0, 0, 0⟩) ⟨Nat.zero_le _, rfl, by unfold ScrB; simp⟩ (by exact .cons rfl (.cons rfl (.cons rfl (.cons rfl (.cons rfl (.cons rfl (.cons rfl .nil))))))) (fun w' h => (Cl.sel (by exact .take 0 rfl (.take 0 rfl (.take 0 rfl (.nil _))))) _ h) ?_
   rintro ⟨f, s⟩ ⟨hf, hsv, hsb⟩
   dsimp only at hf hsv hsb ⊢
   refine cw_seq (zr (zm rfl (zm rfl (zS rfl (q_lss rfl rfl rfl) (nP ?_)))))
   refine cw_cond rfl (fun h5 => ?_) (fun h5 => ?_)
   · have hf' : f < m := by simp at h5; omega
     have hsv2 : (List.range (f + 1)).foldl (foldE o E m) ⟨0, 0, 0, 0⟩ = foldE o E m s f := by
       rw [List.range_succ, List.foldl_append, ← hsv]; rfl
     refine sP (cw_seq (cw_block (zr (za rfl (nP (cw_seq (cw_seq (cw_region (za rfl (sw_nil (post_then (cw_block ?_))))))))))))
     refine cw_loop (S := Nat × SlV) (fun y => [(3, [], .int .i64 m), (6, [], .pointer (some ⟨b6, 0, none⟩)), (8, [], .pointer (some ⟨b8, 0, none⟩)), (9, [], sa.v), (10, [], se.v), (13, [], .pointer (some ⟨b13, 0, none⟩)), (14, [], .int .i64 f), (15, [], y.2.v), (16, [], .int .i64 y.1)]) (fun y => Cl w1 bs [ownL 58 y.2.v (selA LL m f false y.1).flatten, blk b13 (enc s) 98, blk b8 (enc (default : Scr)) 98, blk b6 (enc o) 40]) (fun y => y.1 ≤ LL.length ∧ (selA LL m f false y.1).flatten.length ≤ 40 * y.1) (fun y => LL.length - y.1) (0, ⟨none, 0, 0⟩) ⟨Nat.zero_le _, by simp [selA]⟩ (by exact .cons rfl (.cons rfl (.cons rfl (.cons rfl (.cons rfl (.cons rfl (.cons rfl (.cons rfl (.cons rfl .nil))))))))) (fun w' h => Cl.addNil 58 ((Cl.sel (by exact .take 0 rfl (.take 0 rfl (.take 0 rfl (.nil _))))) _ h)) ?_
     rintro ⟨i, s15⟩ ⟨hi, hxl⟩
     dsimp only at hi hxl ⊢
     refine cw_seq (zr (zm rfl (zm rfl ?_)))
     refine zS rfl (q_len rfl (.k rfl (.nil)) (stA (by assumption))) ?_
     refine zS rfl (q_lss rfl rfl rfl) (nP ?_)
     refine cw_cond rfl (fun h6 => ?_) (fun h6 => ?_)
     · have hi' : i < LL.length := by simp at h6; omega
       have a1 := selA_succ LL m f false i
       have hxo := hex i hi'
       have hxr : Stb w1 bs (RdL (nth vx i).v (nth LL i)) := stb_map hai fun _ h => (h i hi').1
       have hum := helm _ (nth_mem (show i < el.length by omega))
       have hyl : (nth LL i).length ≤ 40 := by
         rw [hxo.len]
         have := (o4 _ hum).1; simp [wordOk] at this; omega
       refine sP (cw_seq (cw_block (zr (zm rfl (zm rfl ?_)))))
       refine zS rfl (q_rem rfl rfl rfl (by intro hc; omega)) ?_
       refine zm rfl (zS rfl (q_neq rfl rfl rfl) (nP ?_))
       have hrm : decide ((i : Int) % (m : Int) = (f : Int)) = decide (i % m = f) := by
         rw [decide_eq_decide]
         omega
       rw [hrm]
       refine cw_cond rfl (fun h7 => ?_) (fun h7 => ?_)
       · rw [if_pos (by simpa using h7)] at a1
         refine cw_region (zm rfl (zm rfl (zm rfl ?_)))
         refine zS rfl (q_indexN rfl rfl rfl (stA (by assumption)) (by intro hc; omega)) ?_
         refine zS rfl (q_loadEl rfl rfl rfl (stA (by assumption)) (by intro hc; omega)) ?_
         refine sw_x rfl rfl rfl (e_append (α := XR) (i := 0) (r := nth LL i) rfl (.k rfl (.k rfl (.nil))) rfl rfl (stA (by assumption)) (by omega) rfl) (fun s70 => ?_)
         refine za rfl (sw_nil (post_blk (post_then (cw_region (zm rfl ?_)))))
         refine zS rfl (q_add rfl rfl rfl (by intro hc; omega)) ?_
         refine za rfl (sw_nil ?_)
         refine post_next (i + 1, s70) (by exact .cons rfl (.cons rfl (.cons rfl (.cons rfl (.cons rfl (.cons rfl (.cons rfl (.cons rfl (.cons rfl .nil))))))))) (fun w' h => ?_) ⟨by simp only; omega, ?_⟩ (by simp only; omega)
         · simp only
           rw [a1, List.flatten_append]
           simp only [List.flatten_cons, List.flatten_nil, List.append_nil]
           exact (Cl.sel (by exact .take 0 rfl (.take 0 rfl (.take 0 rfl (.take 0 rfl (.nil _)))))) _ h
         · simp only
           rw [a1, List.flatten_append, List.length_append]
           simp only [List.flatten_cons, List.flatten_nil, List.append_nil]
           omega
       · rw [if_neg (by simpa using h7), List.append_nil] at a1
         refine cw_skip (post_blk (post_then (cw_region (zm rfl ?_))))
         refine zS rfl (q_add rfl rfl rfl (by intro hc; omega)) ?_
         refine za rfl (sw_nil ?_)
         exact post_next (i + 1, s15) (by exact .cons rfl (.cons rfl (.cons rfl (.cons rfl (.cons rfl (.cons rfl (.cons rfl (.cons rfl (.cons rfl .nil))))))))) (fun w' h => by simp only; rw [a1]; exact (Cl.sel (by exact .take 0 rfl (.take 0 rfl (.take 0 rfl (.take 0 rfl (.nil _)))))) _ h) ⟨by simp only; omega, by simp only; rw [a1]; omega⟩ (by simp only; omega)
     · have hi' : i = LL.length := by simp at h6; omega
       subst hi'
       have hsel : ∀ q ∈ selA LL m f false LL.length, ∃ k, k < LL.length ∧ q = nth LL k := fun q hq => by
         unfold selA at hq
         obtain ⟨k, hk, rfl⟩ := List.mem_map.1 hq
         exact ⟨k, List.mem_range.1 (List.mem_filter.1 hk).1, rfl⟩
       have hev : evR (selA LL m f false LL.length).flatten = ((selA E m f false E.length).map fun u => (u.1, u.2.1)).flatMap evOf := by
         rw [evR_flat, hEl]
         unfold selA
         rw [List.map_map, List.flatMap_def, List.flatMap_def, List.map_map, List.map_map]
         congr 1
         apply List.map_congr_left
         intro k hk
         have hk2 := List.mem_range.1 (List.mem_filter.1 hk).1
         show evR (nth LL k) = evOf ((nth E k).1, (nth E k).2.1)
         rw [hEat k hk2, (hex k hk2).ev]; rfl
       obtain ⟨xs, hxs⟩ : ∃ xs, (selA LL m f false LL.length).flatten = xs := ⟨_, rfl⟩
       have hxk : ∀ e ∈ xs, ∃ k, k < LL.length ∧ e ∈ nth LL k := fun e he => by
         rw [← hxs] at he
         obtain ⟨q, hq, he2⟩ := List.mem_flatten.1 he
         obtain ⟨k, hk, rfl⟩ := hsel q hq
         exact ⟨k, hk, he2⟩
       rw [hxs] at hev hxl ⊢
       have hxo : ∀ e ∈ xs, RxOk e := fun e he => by
         obtain ⟨k, hk, he2⟩ := hxk e he
         exact (hex k hk).ok e he2
       have hxi : Stb w1 bs fun w => ∀ e ∈ xs, RxIn e w := stb_map hai fun _ h e he => by
         obtain ⟨k, hk, he2⟩ := hxk e he
         exact (h k hk).2 e he2
       have hqo : ∀ x ∈ evR xs, EvOk x := by
         rw [hev]
         intro x hx
         obtain ⟨q, hq, hx2⟩ := List.mem_flatMap.1 hx
         obtain ⟨v, hv, rfl⟩ := List.mem_map.1 hq
         have hv2 := selA_mem (by omega) hv
         refine evs_ok y5 (fun u hu => (o4 u hu).1) x (List.mem_flatMap.2 ⟨(v.1, v.2.1), ?_, hx2⟩)
         rw [← ent3_map, hE]
         exact List.mem_map.2 ⟨v, hv2, rfl⟩
       refine cw_exit (post_then_x (post_then_x (post_blk_eq (post_then (zr (zm rfl ?_))))))
       refine zS rfl (q_loadA rfl rfl (by exact .tail _ (.tail _ (.tail _ (.head _)))) rfl) ?_
       refine sw_x rfl rfl rfl (e_call (CanCall.mk Tryz.call72) rfl (.k rfl (.k rfl (.nil))) (fun w2 hw => teach_spec s15 xs o o3 (by omega) hxo w2 (stb_own hw (by exact .head _)) (stb_arg hw hxi))) (fun b => ?_)
       refine sw_imp fun hb => ?_
       have hbt : bkP b.bl = teachP (evR xs) o := hb
       have hbo := book_of o3 hqo hbt
       have hg := good_of hbo
       obtain ⟨P, hP⟩ : ∃ P, bookE o E m f = P := ⟨_, rfl⟩
       have hbk : bkP b.bl = P := by
         rw [← hP, hbt, hev]; rfl
       have hfoldE : foldE o E m s f = (selA E m f true E.length).foldl (addE P) s := by
         unfold foldE; rw [hP]
       refine sw_x rfl rfl rfl (e_alloc rfl) (fun b17 => ?_)
       refine sw_eff0 rfl rfl (e_store (i := 0) rfl rfl rfl rfl rfl rfl rfl rfl) (nP (zr (zm rfl (za rfl (sw_nil (post_then (cw_block ?_)))))))
       refine cw_reb (A := [blk b17 [b.b.v] 45, blk b13 (enc s) 98, blk b8 (enc (default : Scr)) 98, blk b6 (enc o) 40]) (F := [Sx.frz (BkIn b)]) (fun w h => (Cl.sel (by exact .take 0 rfl (.take 2 rfl (.take 2 rfl (.take 2 rfl (.take 0 rfl (.nil _))))))) _ h) fun w2 bs2 R2 => ?_
       have hb2 := R2.frz (R := BkIn b) (by exact .head _)
       have hva2 := R2.stb hva
       have hea2 := R2.stb hea
       have hai2 := R2.stb hai
       have hsi2 := R2.stb hsi1
       refine cw_loop (S := Nat × Scr) (fun y => [(3, [], .int .i64 m), (6, [], .pointer (some ⟨b6, 0, none⟩)), (8, [], .pointer (some ⟨b8, 0, none⟩)), (9, [], sa.v), (10, [], se.v), (13, [], .pointer (some ⟨b13, 0, none⟩)), (14, [], .int .i64 f), (17, [], .pointer (some ⟨b17, 0, none⟩)), (18, [], .int .i64 y.1)]) (fun y => Cl w2 bs2 [blk b17 [b.b.v] 45, blk b13 (enc y.2) 98, blk b8 (enc (default : Scr)) 98, blk b6 (enc o) 40]) (fun y => y.1 % m = f ∧ y.2 = (selA E m f true (min y.1 LL.length)).foldl (addE P) s) (fun y => LL.length - y.1) (f, s) ⟨Nat.mod_eq_of_lt hf', by simp only; rw [selA_none hf' _ (Nat.min_le_left _ _)]; rfl⟩ (by exact .cons rfl (.cons rfl (.cons rfl (.cons rfl (.cons rfl (.cons rfl (.cons rfl (.cons rfl (.cons rfl .nil))))))))) (fun w' h => (Cl.sel (by exact .take 0 rfl (.take 0 rfl (.take 0 rfl (.take 0 rfl (.nil _)))))) _ h) ?_
       rintro ⟨i, s2⟩ ⟨him, hs2⟩
       dsimp only at him hs2 ⊢
       have hsb2 : ScrB s2 (96 * f + 96) := by
         have h1 := fold_b (P := P) (l := selA E m f true (min i LL.length)) hsb (fun u hu => by
           have hv2 := selA_mem (by omega) hu
           rw [← hent] at hv2
           obtain ⟨x, hx, rfl⟩ := List.mem_map.1 hv2
           have := runes_len_le x.word
           have := (f2 _ (helm x hx)).1
           show (runes x.word).length ≤ 12
           omega)
         have h2 := selA_len E m f true (min i LL.length)
         rw [← hs2] at h1
         unfold ScrB at h1 ⊢
         omega
       refine cw_seq (zr (zm rfl (zm rfl ?_)))
       refine zS rfl (q_len rfl (.k rfl (.nil)) (stA (by assumption))) ?_
       refine zS rfl (q_lss rfl rfl rfl) (nP ?_)
       refine cw_cond rfl (fun h7 => ?_) (fun h7 => ?_)
       · have hi' : i < LL.length := by simp at h7; omega
         obtain ⟨u, hu⟩ : ∃ u, nth el i = u := ⟨_, rfl⟩
         have hum : u ∈ l := by rw [← hu]; exact helm _ (nth_mem (by omega))
         have hxe := hex i hi'
         rw [hu] at hxe
         obtain ⟨ys, hys⟩ : ∃ ys, nth LL i = ys := ⟨_, rfl⟩
         rw [hys] at hxe
         obtain ⟨ws, hws⟩ : ∃ ws, runes u.word = ws := ⟨_, rfl⟩
         have hyl := hxe.len
         rw [hws] at hyl
         have hws12 : ws.length ≤ 12 := by
           rw [← hws]
           have := runes_len_le u.word
           have := (f2 _ hum).1
           omega
         have hjump := selA_jump (l := E) (by omega) him hi'
         have hEi : nth E i = entS p u := by rw [hEat i hi', hu]
         have hs3 : (selA E m f true (min (i + m) LL.length)).foldl (addE P) s = addE P s2 (entS p u) := by
           rw [hjump, List.foldl_append, hEi]
           rw [Nat.min_eq_left (Nat.le_of_lt hi')] at hs2
           rw [← hs2]; rfl
         have hyr : Stb w2 bs2 (RdL (nth vx i).v (nth LL i)) := stb_map hai2 fun _ h => (h i hi').1
         have hup : Stb w2 bs2 (RdL (nth el i).p.v (nth el i).pl) := stb_map hsi2 fun _ h => h _ (helm _ (nth_mem (by omega)))
         obtain ⟨sl2, hsl2⟩ : ∃ sl2, alP p u.word u.pl = sl2 := ⟨_, rfl⟩
         obtain ⟨a1, a2, a3, a4⟩ := hsb2
         refine sP (cw_seq (cw_block (zr (za rfl (nP (cw_seq (cw_seq (cw_region (za rfl (sw_nil (post_then (cw_block ?_))))))))))))
         refine cw_loop (S := Nat × SlV) (fun y => [(3, [], .int .i64 m), (6, [], .pointer (some ⟨b6, 0, none⟩)), (8, [], .pointer (some ⟨b8, 0, none⟩)), (9, [], sa.v), (10, [], se.v), (13, [], .pointer (some ⟨b13, 0, none⟩)), (14, [], .int .i64 f), (17, [], .pointer (some ⟨b17, 0, none⟩)), (18, [], .int .i64 i), (19, [], y.2.v), (20, [], .int .i64 y.1)]) (fun y => Cl w2 bs2 [ownL 9 y.2.v (saidP P ws y.1), blk b17 [b.b.v] 45, blk b13 (enc (⟨s2.words, s2.right, s2.letters + y.1, s2.good + goodP P ws sl2 y.1⟩ : Scr)) 98, blk b8 (enc (default : Scr)) 98, blk b6 (enc o) 40]) (fun y => y.1 ≤ ws.length ∧ (saidP P ws y.1).length ≤ 1000 * y.1) (fun y => ws.length - y.1) (0, ⟨none, 0, 0⟩) ⟨Nat.zero_le _, by simp [saidP]⟩ (by exact .cons rfl (.cons rfl (.cons rfl (.cons rfl (.cons rfl (.cons rfl (.cons rfl (.cons rfl (.cons rfl (.cons rfl (.cons rfl .nil))))))))))) (fun w' h => by
           have e1 : goodP P ws sl2 0 = 0 := rfl
           simp only [e1, Int.natCast_zero, Int.add_zero]
           exact Cl.addNil (α := ByteArray) 9 ((Cl.sel (by exact .take 0 rfl (.take 0 rfl (.take 0 rfl (.take 0 rfl (.nil _)))))) _ h)) ?_
         rintro ⟨k, s19⟩ ⟨hk, hsl⟩
         dsimp only at hk hsl ⊢
         have gk := good_le P ws sl2 k
         obtain ⟨gd, hgd⟩ : ∃ gd, goodP P ws sl2 k = gd := ⟨_, rfl⟩
         obtain ⟨sd, hsd⟩ : ∃ sd, saidP P ws k = sd := ⟨_, rfl⟩
         rw [hgd] at gk ⊢
         rw [hsd] at hsl ⊢
         have hLi : (nth LL i).length = ws.length := by rw [hys]; exact hyl
         refine cw_seq (zr (zm rfl (zm rfl (zm rfl ?_))))
         refine zS rfl (q_indexN rfl rfl rfl (stA (by assumption)) (by intro hc; omega)) ?_
         refine zS rfl (q_loadEl rfl rfl rfl (stA (by assumption)) (by intro hc; omega)) ?_
         refine zS rfl (q_len rfl (.k rfl (.nil)) (stA (by assumption))) ?_
         refine zS rfl (q_lss rfl rfl rfl) (nP ?_)
         refine cw_cond rfl (fun h8 => ?_) (fun h8 => ?_)
         · have hk' : k < ws.length := by simp at h8; omega
           have hky : k < ys.length := by omega
           obtain ⟨x1, x2, x3⟩ := hxe.get hky
           rw [hws] at x1
           rw [hsl2] at x3
           have hky2 : k < (nth LL i).length := by omega
           have hkm : nth (nth LL i) k ∈ nth LL i := nth_mem hky2
           have hxw : Stb w2 bs2 (RdL (nth (nth LL i) k).w.v ws) := stb_map hai2 fun _ h => by
             have := ((h i hi').2 _ hkm).1
             rwa [hys, x1, ← hys] at this
           have hxp : Stb w2 bs2 (RdL (nth (nth LL i) k).p.v (nth sl2 k)) := stb_map hai2 fun _ h => by
             have := ((h i hi').2 _ hkm).2
             rwa [hys, x3, ← hys] at this
           have hrp : Stb w2 bs2 (RdL (ruleX b.bl ws k).p.v (ruleX b.bl ws k).pl) := stb_map hb2 fun _ h => rule_in hg h
           have hrq : (ruleX b.bl ws k).pl = rulP P ws k := by rw [ruleX_P hg, hbk]
           have hrs : (ruleX b.bl ws k).pl.length ≤ 1000 := rule_small hg
           refine sP (cw_seq (cw_block (cw_seq ?_)))
           refine cw_region_q mixed_Tryz (by kernel_rfl) ?_
           refine zq rfl (q_loadA rfl rfl (by exact .tail _ (.head _)) rfl) ?_
           refine zw rfl (zw rfl ?_)
           refine zq rfl (q_indexN rfl rfl rfl (stA (by assumption)) (by intro hc; omega)) ?_
           refine zq rfl (q_loadEl rfl rfl rfl (stA (by assumption)) (by intro hc; omega)) ?_
           refine zw rfl ?_
           refine zq rfl (q_indexN rfl rfl rfl (stA (by assumption)) (by intro hc; omega)) ?_
           refine zq rfl (q_fieldEl rfl rfl (stA (by assumption)) (by intro hc; omega)) ?_
           refine zq rfl (q_loadF rfl rfl rfl (stA (by assumption)) (by intro hc; omega) rfl) ?_
           refine zw rfl ?_
           refine qw_step rfl rfl rfl (q_call (CanCall.mk Tryz.call81) rfl (.k rfl (.k rfl (.k rfl (.nil)))) (fun _ w hw => callq hw (refRule_spec b _ ws k hk' (by omega) hg w (stb_arg hw hb2) (stb_arg hw hxw)))) ?_
           refine zw rfl (zq rfl (q_extract rfl rfl rfl) (zq rfl (q_extract rfl rfl rfl) (zq rfl (q_assign rfl rfl) (zq rfl (q_assign rfl rfl) (qw_end (post_then (zr (zm rfl (zm rfl ?_)))))))))
           refine sw_x rfl rfl rfl (e_append (i := 0) rfl (.k rfl (.k rfl (.nil))) rfl rfl (stA (by assumption)) (by first | omega | (simp only [List.length_set, List.length_append, List.length_cons, List.length_nil, List.length_replicate, List.length_take, List.length_drop, List.length_map]; omega)) rfl) (fun s107 => ?_)
           refine za rfl (nP (zr (zS rfl (q_fieldAddr rfl rfl) ?_)))
           refine zS rfl (q_loadC rfl rfl (by exact .tail _ (.tail _ (.head _))) rfl) ?_
           refine zS rfl (q_add rfl rfl rfl (by intro hc; (simp only [List.length_set, List.length_append, List.length_cons, List.length_nil, List.length_replicate, List.length_take, List.length_drop, List.length_map]; omega))) ?_
           refine zS rfl (q_fieldAddr rfl rfl) (sw_eff0 rfl rfl (e_store (i := 2) rfl rfl rfl rfl rfl rfl rfl rfl) (nP (zr (zm rfl (zm rfl (zm rfl ?_))))))
           refine zS rfl (q_indexN rfl rfl rfl (stA (by assumption)) (by intro hc; omega)) ?_
           refine zS rfl (q_loadEl rfl rfl rfl (stA (by assumption)) (by intro hc; omega)) ?_
           refine zm rfl ?_
           refine zS rfl (q_indexN rfl rfl rfl (stA (by assumption)) (by intro hc; omega)) ?_
           refine zS rfl (q_fieldEl rfl rfl (stA (by assumption)) (by intro hc; omega)) ?_
           refine zS rfl (q_loadF rfl rfl rfl (stA (by assumption)) (by intro hc; omega) rfl) ?_
           refine sw_step rfl rfl rfl (q_call (CanCall.mk Tryz.call38) rfl (.k rfl (.k rfl (.nil))) (fun _ w hw => callq hw (order_spec _ _ _ _ w (by exact stb_arg hw (by assumption)) (by exact stb_arg hw (by assumption))))) ?_
           refine zS rfl (q_eql rfl rfl rfl) (nP ?_)
           have gs := good_succ P ws sl2 k
           have ds := said_succ P ws k
           rw [hgd] at gs
           rw [hsd, ← hrq] at ds
           have e1 : s2.letters + ((k + 1 : Nat) : Int) = s2.letters + (k : Int) + 1 := by omega
           refine cw_cond rfl (fun h9 => ?_) (fun h9 => ?_)
           · rw [if_pos (by rw [← hrq]; exact (ordL_eq _ _).1 (by simpa using h9))] at gs
             have e2 : s2.good + ((gd + 1 : Nat) : Int) = s2.good + (gd : Int) + 1 := by omega
             refine cw_region (zS rfl (q_fieldAddr rfl rfl) ?_)
             refine zS rfl (q_loadC rfl rfl (by exact .tail _ (.tail _ (.head _))) rfl) ?_
             refine zS rfl (q_add rfl rfl rfl (by intro hc; (simp only [List.length_set, List.length_append, List.length_cons, List.length_nil, List.length_replicate, List.length_take, List.length_drop, List.length_map]; omega))) ?_
             refine zS rfl (q_fieldAddr rfl rfl) (sw_eff0 rfl rfl (e_store (i := 2) rfl rfl rfl rfl rfl rfl rfl rfl) (sw_nil (post_blk (post_then (cw_region (zm rfl ?_))))))
             refine zS rfl (q_add rfl rfl rfl (by intro hc; omega)) ?_
             refine za rfl (sw_nil ?_)
             exact post_next (k + 1, s107) (by exact .cons rfl (.cons rfl (.cons rfl (.cons rfl (.cons rfl (.cons rfl (.cons rfl (.cons rfl (.cons rfl (.cons rfl (.cons rfl .nil))))))))))) (fun w' h => by simp only; rw [ds, gs, e1, e2]; exact (Cl.sel (by exact .take 0 rfl (.take 0 rfl (.take 0 rfl (.take 0 rfl (.take 0 rfl (.nil _))))))) _ h) ⟨by simp only; omega, by simp only; rw [ds, List.length_append]; omega⟩ (by simp only; omega)
           · rw [if_neg (fun g => by rw [hrq, g, ordL_self] at h9; simp at h9), Nat.add_zero] at gs
             refine cw_skip (post_blk (post_then (cw_region (zm rfl ?_))))
             refine zS rfl (q_add rfl rfl rfl (by intro hc; omega)) ?_
             refine za rfl (sw_nil ?_)
             exact post_next (k + 1, s107) (by exact .cons rfl (.cons rfl (.cons rfl (.cons rfl (.cons rfl (.cons rfl (.cons rfl (.cons rfl (.cons rfl (.cons rfl (.cons rfl .nil))))))))))) (fun w' h => by simp only; rw [ds, gs, e1]; exact (Cl.sel (by exact .take 0 rfl (.take 0 rfl (.take 0 rfl (.take 0 rfl (.take 0 rfl (.nil _))))))) _ h) ⟨by simp only; omega, by simp only; rw [ds, List.length_append]; omega⟩ (by simp only; omega)
         · have hk' : k = ws.length := by simp at h8; omega
           subst hk'
           have hadd : addE P s2 (entS p u) = ⟨s2.words + 1, s2.right + (if sd = u.pl then 1 else 0), s2.letters + ws.length, s2.good + gd⟩ := by
             unfold addE entS
             dsimp only
             rw [hws, hsl2, hsd, hgd]
           rw [hadd] at hs3
           refine cw_exit (post_then_x (post_then_x (post_blk_eq (post_then (zr (zS rfl (q_fieldAddr rfl rfl) ?_))))))
           refine zS rfl (q_loadC rfl rfl (by exact .tail _ (.tail _ (.head _))) rfl) ?_
           refine zS rfl (q_add rfl rfl rfl (by intro hc; (simp only [List.length_set, List.length_append, List.length_cons, List.length_nil, List.length_replicate, List.length_take, List.length_drop, List.length_map]; omega))) ?_
           refine zS rfl (q_fieldAddr rfl rfl) (sw_eff0 rfl rfl (e_store (i := 2) rfl rfl rfl rfl rfl rfl rfl rfl) (nP (zr (zm rfl (zm rfl (zm rfl ?_))))))
           refine zS rfl (q_indexN rfl rfl rfl (stA (by assumption)) (by intro hc; omega)) ?_
           refine zS rfl (q_fieldEl rfl rfl (stA (by assumption)) (by intro hc; omega)) ?_
           refine zS rfl (q_loadF rfl rfl rfl (stA (by assumption)) (by intro hc; omega) rfl) ?_
           refine sw_step rfl rfl rfl (q_call (CanCall.mk Tryz.call38) rfl (.k rfl (.k rfl (.nil))) (fun _ w hw => callq hw (order_spec _ _ _ _ w (by exact stb_own hw (by exact .head _)) (by exact stb_arg hw (by assumption))))) ?_
           refine zS rfl (q_eql rfl rfl rfl) (nP ?_)
           rw [hu]
           refine cw_cond rfl (fun h9 => ?_) (fun h9 => ?_)
           · rw [if_pos ((ordL_eq _ _).1 (by simpa using h9))] at hs3
             refine cw_region (zS rfl (q_fieldAddr rfl rfl) ?_)
             refine zS rfl (q_loadC rfl rfl (by exact .tail _ (.tail _ (.head _))) rfl) ?_
             refine zS rfl (q_add rfl rfl rfl (by intro hc; (simp only [List.length_set, List.length_append, List.length_cons, List.length_nil, List.length_replicate, List.length_take, List.length_drop, List.length_map]; omega))) ?_
             refine zS rfl (q_fieldAddr rfl rfl) (sw_eff0 rfl rfl (e_store (i := 2) rfl rfl rfl rfl rfl rfl rfl rfl) (sw_nil (post_blk (post_then (cw_region (zm rfl (zm rfl ?_)))))))
             refine zS rfl (q_add rfl rfl rfl (by intro hc; omega)) ?_
             refine za rfl (sw_nil ?_)
             exact post_next (i + m, ⟨s2.words + 1, s2.right + 1, s2.letters + ws.length, s2.good + gd⟩) (by exact .cons rfl (.cons rfl (.cons rfl (.cons rfl (.cons rfl (.cons rfl (.cons rfl (.cons rfl (.cons rfl .nil))))))))) (fun w' h => (Cl.sel (by exact .take 1 rfl (.take 1 rfl (.take 1 rfl (.take 1 rfl (.nil _)))))) _ h) ⟨by simp only; rw [Nat.add_mod_right]; exact him, hs3.symm⟩ (by simp only; omega)
           · rw [if_neg (fun g => by rw [g, ordL_self] at h9; simp at h9), Int.add_zero] at hs3
             refine cw_skip (post_blk (post_then (cw_region (zm rfl (zm rfl ?_)))))
             refine zS rfl (q_add rfl rfl rfl (by intro hc; omega)) ?_
             refine za rfl (sw_nil ?_)
             exact post_next (i + m, ⟨s2.words + 1, s2.right, s2.letters + ws.length, s2.good + gd⟩) (by exact .cons rfl (.cons rfl (.cons rfl (.cons rfl (.cons rfl (.cons rfl (.cons rfl (.cons rfl (.cons rfl .nil))))))))) (fun w' h => (Cl.sel (by exact .take 1 rfl (.take 1 rfl (.take 1 rfl (.take 1 rfl (.nil _)))))) _ h) ⟨by simp only; rw [Nat.add_mod_right]; exact him, hs3.symm⟩ (by simp only; omega)
       · have hi' : LL.length ≤ i := by simp at h7; omega
         rw [Nat.min_eq_right hi', ← hEl, ← hfoldE] at hs2
         refine cw_exit (post_then_x (post_then_x (post_blk_eq (post_blk (post_then (cw_region (zm rfl ?_)))))))
         refine zS rfl (q_add rfl rfl rfl (by intro hc; omega)) ?_
         refine za rfl (sw_nil ?_)
         refine post_next (f + 1, s2) (by exact .cons rfl (.cons rfl (.cons rfl (.cons rfl (.cons rfl (.cons rfl (.cons rfl .nil))))))) (fun w' h => R2.cl ((Cl.sel (by exact .take 1 rfl (.take 1 rfl (.take 1 rfl (.nil _))))) _ h)) ⟨by simp only; omega, by simp only; rw [hsv2, hs2], ?_⟩ (by simp only; omega)
         unfold ScrB at hsb2 ⊢
         dsimp only
         omega
   · have hf' : f = m := by simp at h5; omega
     subst hf'
     have e3 : s = scoreC o E f := hsv
     refine cw_exit (post_then_x (post_then_x (post_blk_eq (post_then (zr ?_)))))
     refine zS rfl (q_loadA rfl rfl (by exact .head _) rfl) ?_
     refine sw_eff0 rfl rfl (e_store (i := 1) rfl rfl rfl rfl rfl rfl rfl rfl) (nP (cw_ret ?_))
     refine post_ret1 rfl (resOk_blk (x := s) rfl (by exact .tail _ (.head _)) (by rfl)) ?_
     exact fun w' hw => ⟨by rw [e3], R.cl ((Cl.sel (by exact .nil _)) _ hw)⟩
end Go.Proofs.YtkmbliojafefdaaGreatDoor

set_option autoImplicit false
set_option maxRecDepth 100000
set_option maxHeartbeats 1000000
namespace Go.Proofs.YtkmbliojafefdaaGreatDoor
open Go.Sx
open Enc (enc val)
theorem scr_ext {a b : Scr} : a = b ↔ a.words = b.words ∧ a.right = b.right ∧ a.letters = b.letters ∧ a.good = b.good :=
 ⟨fun h => by rw [h]; exact ⟨rfl, rfl, rfl, rfl⟩, fun ⟨h1, h2, h3, h4⟩ => by cases a; cases b; simp at h1 h2 h3 h4; rw [h1, h2, h3, h4]⟩
instance : DecidableEq Scr := fun _ _ => decidable_of_iff _ scr_ext.symm
section
variable {n : Fr} {E : Env} {C : World → Prop} {cs : List Bool} {o : Oper}
theorem eql98 (a b : Scr) (w : World) : (binOp .eql 98 (val a) (val b)).run Tryz.prog w = .ok (.bool (decide (a = b))) w := by
 obtain ⟨a1, a2, a3, a4⟩ := a
 obtain ⟨b1, b2, b3, b4⟩ := b
 show (binOp .eql 98 (.agg #[.int .i64 a1, .int .i64 a2, .int .i64 a3, .int .i64 a4]) (.agg #[.int .i64 b1, .int .i64 b2, .int .i64 b3, .int .i64 b4])).run Tryz.prog w = _
 simp [go_sem, scr_ext]
 by_cases h1 : a1 = b1 <;> by_cases h2 : a2 = b2 <;> by_cases h3 : a3 = b3 <;> by_cases h4 : a4 = b4 <;> simp [h1, h2, h3, h4]
theorem q_eqScr {t' : TypeId} {x y : Operand} {cx cy : List Bool} {a b : Scr} (ho : o.op = .binOp .eql 98 x y t') (hx : evl E x = some (cx, val a)) (hy : evl E y = some (cy, val b)) [sx : Sub cx cs] [sy : Sub cy cs] : OpR Tryz.prog n E C cs o (.bool (decide (a = b))) :=
 .of_run fun ac ha hc w _ => by
   have hg : (eqGuard .eql 98 x y (val a) (val b)).run Tryz.prog w = .ok () w := by kernel_rfl
   unfold execOp; simp only [ho]; rw [ha.eval hx sx hc, ha.eval hy sy hc]
   simp [hg, eql98, Result.andThen]
end
theorem validates_spec (sl sp : SlV) (l : List Sp) (p : List Pr) (o : Lrn) (n : Int) (hz : ∀ u ∈ l, u.word.size ≤ 9223372036854775807) (w : World) (hT : Stb w [] Tab) (hs : Stb w [] (RdL sl.v l)) (hsi : Stb w [] fun w' => ∀ u ∈ l, SpIn u w') (hp : Stb w [] (RdL sp.v p)) (hpi : Stb w [] fun w' => ∀ u ∈ p, PrIn u w') :
   Calls Tryz.prog 14 #[sl.v, sp.v, val o, .int .i64 n] w fun e w' => e = .returned (.bool true) ∧ Cl w [] [] w' := by
 have hL1 := rd_len hs.here
 have hL2 := rd_len hp.here
 refine calls_cw (vs := [_, _, _, _]) Tryz.func14 rfl Tryz.ntmps14 rfl (Cl.start0 w) (zr ?_)
 refine sw_x rfl rfl rfl (e_box rfl rfl rfl) (fun b6 => ?_)
 refine za rfl (nP (cw_seq (zr (zm rfl (sw_step rfl rfl rfl (q_call (CanCall.mk Tryz.call27) rfl (.k rfl (.k rfl (.nil))) (fun _ w hw => callq hw (lawLex_spec _ l 8 hz w (stb_arg hw hs) (stb_arg hw hsi)))) (zS rfl (q_not rfl rfl) (zm rfl (zm rfl (sw_step rfl rfl rfl (q_call (CanCall.mk Tryz.call28) rfl (.k rfl (.nil)) (fun _ w hw => callq hw (brief_spec _ l hz w (stb_arg hw hs) (stb_arg hw hsi)))) (zS rfl (q_not rfl rfl) (zS rfl (q_or2 rfl rfl rfl) (zm rfl (zm rfl (sw_step rfl rfl rfl (q_call (CanCall.mk Tryz.call17) rfl (.k rfl (.nil)) (fun _ w hw => callq hw (lawPairs_spec _ p w (stb_arg hw hp) (stb_arg hw hpi)))) (zS rfl (q_not rfl rfl) (zS rfl (q_or2 rfl rfl rfl) (sw_nil (post_then ?_))))))))))))))))))
 refine cw_cond rfl (fun h => ?_) (fun h => ?_)
 · refine zr ?_
   refine sw_step rfl rfl rfl (q_call (CanCall.mk Tryz.call19) rfl (.nil) (fun _ w hw => callq hw (known_spec w (stb_arg hw (by assumption))))) ?_
   refine za rfl (nP (cw_ret (post_then_r (post_ret1 rfl (resOk_tmp rfl) ?_))))
   exact fun w' hw => ⟨rfl, (Cl.sel (by exact .nil _)) _ hw⟩
 · have hlaw : lawLex l 8 = true ∧ brf l = true ∧ lawPrs p = true := by
     simp at h; exact ⟨h.1.1, h.1.2, h.2⟩
   have hlz := law_z (n := 8) hlaw
   have hfew : optE l p o = 0 → l.length ≤ 8 ∧ ∀ u ∈ l, u.word.size ≤ 12 ∧ u.pl.length ≤ 20 := fun h0 => law_few (n := 8) (by omega) hlaw h0
   have hsz : ∀ u ∈ l, u.word.size ≤ 1000000 := fun u hu => by have := (hlz.1 u hu).1; omega
   refine sP (zr (zm rfl (zm rfl ?_)))
   refine zS rfl (q_loadA rfl rfl (by exact .head _) rfl) ?_
   refine zm rfl (sw_step rfl rfl rfl (q_call (CanCall.mk Tryz.call55) rfl (.k rfl (.k rfl (.k rfl (.k rfl (.nil))))) (fun _ w hw => callq hw (validate_spec sl sp l p o n hsz hfew w (stb_arg hw hT) (stb_arg hw hs) (stb_arg hw hsi) (stb_arg hw hp) (stb_arg hw hpi)))) (zm rfl (zS rfl (q_extract rfl rfl rfl) (zS rfl (q_extract rfl rfl rfl) ?_))))
   refine sw_x rfl rfl rfl (e_alloc rfl) (fun b9 => ?_)
   refine sw_eff0 rfl rfl (e_store (i := 0) rfl rfl rfl rfl rfl rfl rfl rfl) (za rfl (nP (zr (zm rfl (zm rfl ?_)))))
   refine zS rfl (q_loadA rfl rfl (by exact .tail _ (.head _)) rfl) ?_
   refine sw_step rfl rfl rfl (q_call (CanCall.mk Tryz.call30) rfl (.k rfl (.k rfl (.k rfl (.nil)))) (fun _ w hw => callq hw (shape_spec sl sp l p o hlz.1 hlz.2 w (stb_arg hw hT) (stb_arg hw hs) (stb_arg hw hsi) (stb_arg hw hp) (stb_arg hw hpi)))) (za rfl (nP (cw_seq (zr (zm rfl (zS rfl (q_eql rfl rfl rfl) (zm rfl (zm rfl (zS rfl (q_lss rfl rfl rfl) (zm rfl (zm rfl (zS rfl (q_gtr rfl rfl rfl) (zS rfl (q_or2 rfl rfl rfl) (zS rfl (q_and2 rfl rfl rfl) (sw_nil (post_then ?_))))))))))))))))
   refine cw_cut (S := Unit) (fun _ => [(0, [], sl.v), (1, [], sp.v), (3, [], .int .i64 n), (6, [], .pointer (some ⟨b6, 0, none⟩)), (9, [], .pointer (some ⟨b9, 0, none⟩)), (10, [], .int .i64 (valE l p o n)), (11, [], .int .i64 (valE l p o n))]) (fun _ => Cl w [] [blk b9 (enc (valS l p o n)) 98, blk b6 (enc o) 40]) (fun _ => True) ?_ ?_
   · refine cw_cond rfl (fun h2 => ?_) (fun h2 => ?_)
     · have e1 : valE l p o n = 2 := by
         simp at h2
         unfold valE
         rw [if_pos h2.1, if_pos (by omega)]
       rw [e1]
       refine cw_region (za rfl (sw_nil ?_))
       exact post_meet () (by exact .cons rfl (.cons rfl (.cons rfl (.cons rfl (.cons rfl (.cons rfl (.cons rfl .nil))))))) (Cl.sel (by exact .take 0 rfl (.take 0 rfl (.nil _)))) trivial
     · have e1 : valE l p o n = optE l p o := by
         unfold valE
         split
         · rename_i h0
           rw [if_neg (by simp [h0] at h2; omega), h0]
         · rfl
       rw [e1]
       refine cw_skip ?_
       exact post_meet () (by exact .cons rfl (.cons rfl (.cons rfl (.cons rfl (.cons rfl (.cons rfl (.cons rfl .nil))))))) (Cl.sel (by exact .take 0 rfl (.take 0 rfl (.nil _)))) trivial
   rintro _ _
   refine post_then (cw_seq (zr (zm rfl (zS rfl (q_neq rfl rfl rfl) (nP ?_)))))
   refine cw_cond rfl (fun h2 => ?_) (fun h2 => ?_)
   · have e1 : valE l p o n ≠ 0 := by simpa using h2
     have e2 : valS l p o n = default := by unfold valS; rw [if_neg e1]
     rw [e2]
     refine zr (zm rfl (zm rfl (zS rfl (q_eql rfl rfl rfl) (zm rfl ?_))))
     refine zS rfl (q_loadA rfl rfl (by exact .head _) rfl) ?_
     refine zS rfl (q_build rfl (.nil) rfl) (zS rfl (q_eqScr (a := default) (b := default) rfl rfl rfl) (zS rfl (q_and2 rfl rfl rfl) (zm rfl ?_)))
     refine sw_step rfl rfl rfl (q_call (CanCall.mk Tryz.call19) rfl (.nil) (fun _ w hw => callq hw (known_spec w (stb_arg hw (by assumption))))) ?_
     refine zS rfl (q_and2 rfl rfl rfl) (za rfl (nP (cw_ret (post_then_r (post_ret1 rfl (resOk_tmp rfl) ?_)))))
     exact fun w' hw => ⟨by simp, (Cl.sel (by exact .nil _)) _ hw⟩
   · have e1 : valE l p o n = 0 := by simpa using h2
     have h0 : optE l p o = 0 ∧ ¬ (n < 2 ∨ 10 < n) := by
       unfold valE at e1
       split at e1
       · rename_i g
         refine ⟨g, fun g2 => ?_⟩
         rw [if_pos g2] at e1
         cases e1
       · rename_i g; exact absurd e1 g
     obtain ⟨h0, hn⟩ := h0
     obtain ⟨f1, f2⟩ := hfew h0
     have e2 : valS l p o n = scoreC o (ent3 p l) n.toNat := by unfold valS; rw [if_pos e1]
     have hso := score_ok o (ent3 p l) n.toNat
     obtain ⟨m, rfl⟩ : ∃ m : Nat, n = m := ⟨n.toNat, by omega⟩
     rw [Int.toNat_natCast] at e2 hso
     rw [e1, e2]
     obtain ⟨s, hsc⟩ : ∃ s, scoreC o (ent3 p l) m = s := ⟨_, rfl⟩
     rw [hsc] at hso ⊢
     refine sP (cw_seq (cw_region_a (Cl w [] [blk b9 (enc s) 98, blk b6 (enc o) 40]) [] mixed_Tryz ?_))
     refine zp 0 rfl (q_move rfl rfl) ?_
     refine zp 1 rfl (q_eql rfl rfl rfl) ?_
     refine zp 2 rfl (q_move rfl rfl) ?_
     refine zk 3 (Cl.sel (by exact .take 0 rfl (.take 0 rfl (.nil _)))) rfl (q_loadA rfl rfl (by exact .head _) rfl) ?_
     refine zp 4 rfl (q_move rfl rfl) ?_
     refine zp 5 rfl (q_move rfl rfl) ?_
     refine zk 6 (Cl.sel (by exact .take 0 rfl (.take 0 rfl (.nil _)))) rfl (q_loadA rfl rfl (by exact .tail _ (.head _)) rfl) ?_
     refine zp 7 rfl (q_move rfl rfl) ?_
     refine aw_qc 8 (by kernel_rfl) rfl rfl (by first | (simp [AllT]; done) | simp [AllT, *]) rfl rfl (q_call (CanCall.mk Tryz.call56) rfl (.k rfl (.k rfl (.k rfl (.k rfl (.nil))))) (fun _ w hw => callq hw (refValidate_spec sl sp l p o m (by omega) h0 f1 f2 w (stb_arg hw hT) (stb_arg hw hs) (stb_arg hw hsi) (stb_arg hw hp) (stb_arg hw hpi)))) (by intro hb; exact (Cl.sel (by exact .take 0 rfl (.take 0 rfl (.nil _))))) ?_
     rw [hsc]
     have hr1 := hso.1.2
     have hr2 := hso.2.2
     refine zk 9 (Cl.sel (by exact .take 0 rfl (.take 0 rfl (.nil _)))) rfl (q_eqScr (a := s) (b := s) rfl rfl rfl) ?_
     refine zp 10 rfl (q_and2 rfl rfl rfl) ?_
     refine zp 11 rfl (q_move rfl rfl) ?_
     refine zk 12 (Cl.sel (by exact .take 0 rfl (.take 0 rfl (.nil _)))) rfl (q_fieldAddr rfl rfl) ?_
     refine zk 13 (Cl.sel (by exact .take 0 rfl (.take 0 rfl (.nil _)))) rfl (q_loadC rfl rfl (by exact .head _) rfl) ?_
     refine zk 14 (Cl.sel (by exact .take 0 rfl (.take 0 rfl (.nil _)))) rfl (q_fieldAddr rfl rfl) ?_
     refine zk 15 (Cl.sel (by exact .take 0 rfl (.take 0 rfl (.nil _)))) rfl (q_loadC rfl rfl (by exact .head _) rfl) ?_
     refine zp 16 rfl (q_leq rfl rfl rfl) ?_
     refine zp 17 rfl (q_and2 rfl rfl rfl) ?_
     refine zp 18 rfl (q_move rfl rfl) ?_
     refine zk 19 (Cl.sel (by exact .take 0 rfl (.take 0 rfl (.nil _)))) rfl (q_fieldAddr rfl rfl) ?_
     refine zk 20 (Cl.sel (by exact .take 0 rfl (.take 0 rfl (.nil _)))) rfl (q_loadC rfl rfl (by exact .head _) rfl) ?_
     refine zk 21 (Cl.sel (by exact .take 0 rfl (.take 0 rfl (.nil _)))) rfl (q_fieldAddr rfl rfl) ?_
     refine zk 22 (Cl.sel (by exact .take 0 rfl (.take 0 rfl (.nil _)))) rfl (q_loadC rfl rfl (by exact .head _) rfl) ?_
     refine zp 23 rfl (q_leq rfl rfl rfl) ?_
     refine zp 24 rfl (q_and2 rfl rfl rfl) ?_
     refine zp 25 rfl (q_move rfl rfl) ?_
     refine aw_qc 26 (by kernel_rfl) rfl rfl (by first | (simp [AllT]; done) | simp [AllT, *]) rfl rfl (q_call (CanCall.mk Tryz.call19) rfl (.nil) (fun _ w hw => callq hw (known_spec w (stb_arg hw (by assumption))))) (by intro hb; exact (Cl.sel (by exact .take 0 rfl (.take 0 rfl (.nil _))))) ?_
     refine zp 27 rfl (q_and2 rfl rfl rfl) ?_
     refine zp 28 rfl (q_assign rfl rfl) ?_
     refine aw_end (by kernel_rfl) ?_
     refine post_then (cw_ret (post_ret1 rfl (resOk_tmp rfl) ?_))
     exact fun w' hw => ⟨by simp [hr1, hr2], (Cl.sel (by exact .nil _)) _ hw⟩
end Go.Proofs.YtkmbliojafefdaaGreatDoor

set_option autoImplicit false
namespace Go.Proofs.YtkmbliojafefdaaGreatDoor.letterValidates
open Go.ChangeShapes Go.WideShapes Go.ChangeAt Go.RowKit Go.Sx
theorem own : ownKnob Tryz.prog.godebug = none := by kernel_rfl
theorem laid : laidOutB Tryz.prog = true := by kernel_rfl
theorem rowed : ∀ t ∈ Tryz.f14.params.toList, Tryz.prog.readableRec t = true ∧ t < Tryz.prog.types.size := by
 rw [Tryz.params14]
 intro t ht
 change t ∈ [38, 22, 40, 3] at ht
 simp only [List.mem_cons, List.not_mem_nil, or_false] at ht
 rcases ht with rfl | rfl | rfl | rfl <;> exact ⟨by kernel_rfl, of_decide_eq_true (by kernel_rfl)⟩
set_option maxHeartbeats 1000000 in
set_option maxRecDepth 100000 in
theorem lifted (os : Os) (started : os.Started) (H : Type) (enc : TypeId × Value → H) :
   ReturnsInHanded {} Tryz.checked os 14 .any (fun w args => (Rows.letterValidatesSpec.pre enc Tryz.prog Tryz.f14 Rows.letterValidatesRow.domain false w args ∧ laidMetH Tryz.prog Rows.letterValidatesRow.laid w) ∧ sizedMet enc Tryz.prog Tryz.f14 (OpenSpec.ofChange Rows.letterValidatesSpec) false w args)
     (Rows.letterValidatesSpec.post enc Tryz.prog Tryz.f14 false true false false) := by
 refine returnsInHanded_of_change_and (C := Tryz.checked) (X := fun w _ => laidMetH Tryz.prog Rows.letterValidatesRow.laid w) (fun _ _ _ hh h => h.of_heap hh) own started (by kernel_rfl) Tryz.func14
   (ChangeSpec.witness_shaped (enc := enc) (C := Tryz.checked) (os := os) (X := fun w _ => laidMetH Tryz.prog Rows.letterValidatesRow.laid w) false (World.laidAll Tryz.prog os Rows.letterValidatesRow.laid) #[.slice none 0 0, .slice none 0 0, .agg #[.int .i64 0, .int .i64 0, .int .i64 0], .int .i64 0] 8 (World.laidAll_os _ _ _)
     (World.shaped_of_ZipB (by kernel_rfl) (by kernel_rfl)) (by kernel_rfl) (by kernel_rfl) (by kernel_rfl)
     (by rw [MakeChecks.laidMetH_plain _ _ _ (by kernel_rfl)]; exact laidMet_laidAll _ (by kernel_rfl) (by kernel_rfl))) ?_
 intro W base args ds gs before hval0 hW hcnd _ hL _
 have hval : ∀ (j : Nat) t v, Tryz.f14.params[j]? = some t → args[j]? = some v → Value.okWide Tryz.prog W .any base t v := hval0
 have hW' := hW
 have hlt := hW.lt
 obtain ⟨p, q, hA0, hV, rfl, hfz, hnd⟩ := hW
 have hA : DataW.TrodAll enc Tryz.prog W 0 (fun _ => true) true Tryz.f14.params.toList args.toList ds p := hA0
 have hkeep := fun (W' : World) (hb : Below W.heap.size W W') (sp : Nat → Bool) (hsp : ∀ x ∈ p, sp x.block = true) => trodAll_keep laid hb sp rowed hA (fun x hx => hlt x (by simp [hx])) hsp
 rw [Tryz.params14] at hA hval
 obtain ⟨v0, vs0, d0, ds0, p0, q0, hargs, rfl, rfl, h0, r0⟩ := trodAll_cons hA
 obtain ⟨v1, vs1, d1, ds1, p1, q1, rfl, rfl, rfl, h1, r1⟩ := trodAll_cons r0
 obtain ⟨v2, vs2, d2, ds2, p2, q2, rfl, rfl, rfl, h2, r2⟩ := trodAll_cons r1
 obtain ⟨v3, vs3, d3, ds3, p3, q3, rfl, rfl, rfl, h3, r3⟩ := trodAll_cons r2
 obtain ⟨rfl, rfl, rfl⟩ := trodAll_nil r3
 obtain rfl : args = #[v0, v1, v2, v3] := by cases args; simp_all
 obtain ⟨rfl, rfl⟩ := trodVars_none hV
 obtain ⟨a0, b0, rfl, k0⟩ := open_deep (hval 0 38 v0 rfl rfl) h0
 obtain ⟨a1, b1, rfl, k1⟩ := open_deep (hval 1 22 v1 rfl rfl) h1
 obtain ⟨a2, b2, rfl, k2⟩ := open_deep (hval 2 40 v2 rfl rfl) h2
 obtain rfl := k2.here
 obtain ⟨a3, b3, rfl, k3⟩ := open_deep (hval 3 3 v3 rfl rfl) h3
 obtain ⟨rfl, w3⟩ := k3.here
 clear hA0 hval0
 rw [MakeChecks.laidMetH_plain _ _ _ (by kernel_rfl)] at hL
 have hT : Stb W [] Tab := tab_stb (utf8Tabs_of_readsT (U8Types.of196 Tryz.lays196) ⟨by kernel_rfl, by kernel_rfl, by kernel_rfl, by kernel_rfl, by kernel_rfl, by kernel_rfl, by kernel_rfl⟩ (Pinned.utf8First_eq ▸ Lib.laidMet.reads hL (.tail _ (.head _))) (Lib.laidMet.reads hL (.head _)))
 refine (validates_spec a0 a1 b0 b1 a2 a3 (sp_size k0.here) W hT (stb_flat (fun a b w h => h.1) k0) (sp_all k0) (stb_flat (fun a b w h => h.1) k1) (pr_all k1)).mono fun e W' ⟨he, hc⟩ => ?_
 subst he
 have hb := below_of hc
 exact ⟨_, rfl, _, _, _, [], _, [], hW', trodAll_cons_mk (shut_bool Tryz.underlying4 _) trodAll_mk0, hkeep W' hb _ (fun x hx => by simpa using hlt x (by simpa using hx)), rfl, hb.frame _, fun h => by cases h⟩
end Go.Proofs.YtkmbliojafefdaaGreatDoor.letterValidates

set_option autoImplicit false
namespace Go.Proofs.YtkmbliojafefdaaGreatDoor.letterValidates
open Go.Sx
theorem named : Tryz.prog.funcNamed "declaim/declaimlaw03.LetterValidates" = some 14 := by kernel_rfl
theorem inst : Tryz.f14.isInstance Tryz.prog Rows.letterValidatesRow.origin Rows.letterValidatesRow.targs := of_decide_eq_true (by kernel_rfl)
theorem wrap : Tryz.f14.isWrapper Tryz.prog Rows.letterValidatesRow.wrapper Rows.letterValidatesRow.mainSum := by unfold Func.isWrapper; first | (rw [if_pos (by decide +kernel)]; kernel_rfl) | (rw [if_neg (by decide +kernel)]; exact ⟨rfl, rfl⟩)
theorem over : Rows.letterValidatesRow.holds Tryz.pinned (OpenSpec.ofChange Rows.letterValidatesSpec) :=
 OpenClaim.holds_of_wide 14 Tryz.f14 rfl rfl rfl rfl rfl rfl rfl ⟨rfl, rfl, rfl, rfl, rfl⟩ rfl rfl rfl rfl rfl named Tryz.func14 closed inst wrap
   (fun os started H enc _ => lifted os started H enc)
end Go.Proofs.YtkmbliojafefdaaGreatDoor.letterValidates
