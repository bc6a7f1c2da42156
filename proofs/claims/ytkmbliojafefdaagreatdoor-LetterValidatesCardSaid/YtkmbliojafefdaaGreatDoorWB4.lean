import Derived.Test.YtkmbliojafefdaaGreatDoorWB3

set_option autoImplicit false
set_option linter.unusedSimpArgs false
set_option linter.unusedVariables false
set_option maxRecDepth 100000
namespace Go.Proofs.YtkmbliojafefdaaGreatDoor
open Go.Sx
open Enc (enc val)
def heldF (l : List XL) (r : Int) (i : Nat) (done : List TT) (k : TT) : List XL := heldC (l.take i) r k ++ if k ∈ done then [nth l i] else []
theorem heldF_nil (l : List XL) (r : Int) (i : Nat) : heldF l r i [] = heldC (l.take i) r := by funext k; simp [heldF]
theorem heldF_all {l : List XL} {r : Int} {i : Nat} (hi : i < l.length) : heldF l r i (cands (nth l i) r) = heldC (l.take (i + 1)) r := by funext k; rw [held_take hi]; rfl
theorem heldF_self {l : List XL} {r : Int} {i : Nat} {done : List TT} {t : TT} (h : t ∉ done) : heldF l r i (done ++ [t]) t = heldF l r i done t ++ [nth l i] := by simp [heldF, h]
theorem heldF_ne {l : List XL} {r : Int} {i : Nat} {done : List TT} {t k : TT} (h : k ≠ t) : heldF l r i (done ++ [t]) k = heldF l r i done k := by simp [heldF, h]
theorem heldF_len (l : List XL) (r : Int) (i : Nat) (done : List TT) (t : TT) : (heldF l r i done t).length ≤ l.length + 1 := by
 unfold heldF
 have := held_le (r := r) (l.take i) t
 rw [List.length_take] at this
 rw [List.length_append]
 split
 · simp; omega
 · simp; omega
theorem entX_v {κ ν : Type} [DecidableEq κ] [Enc κ] [Enc ν] {z : ν} {l : List (κ × ν)} {k : κ} {X : EntX κ ν} (h : EntXok z l k X) : X.v = getZ z l k := by
 rw [← h.get k]
 have h1 : (k, X.v) ∈ kvs X.es := by
   have := List.mem_of_getElem? h.at'
   exact List.mem_map.2 ⟨_, this, rfl⟩
 have h2 : ((kvs X.es).map (·.1)).Nodup := by rw [kvs_keys]; exact h.ok.keys
 unfold getZ
 rw [(get?_mem h2).2 h1]; rfl
theorem perm_x {α : Type} {A M X R : List α} : ((A ++ (M ++ X)) ++ R).Perm (X ++ ((A ++ M) ++ R)) := by
 have : (A ++ (M ++ X)) ++ R = (A ++ M) ++ (X ++ R) := by simp
 rw [this]
 exact List.perm_append_comm_assoc _ _ _
theorem candB_len {e : XL} {a : Int} : ∀ {n : Nat} {b : Int}, (candB e a b n).length ≤ n
 | 0, _ => by simp [candB]
 | n + 1, b => by
   have := candB_len (e := e) (a := a) (n := n) (b := b + 1)
   unfold candB
   split
   · omega
   · simp; omega
theorem candL_len {e : XL} {r : Int} (hr : 1 ≤ r ∧ r ≤ 3) : ∀ {n : Nat} {a : Int}, -r ≤ a → (candL e r a n).length ≤ n * 7
 | 0, _, _ => by simp [candL]
 | n + 1, a, ha => by
   have := candL_len (e := e) hr (n := n) (a := a + 1) (by omega)
   have h2 := candB_len (e := e) (a := a) (n := (r - a).toNat) (b := a + 1)
   unfold candL
   split
   · omega
   · simp; omega
theorem cands_len {e : XL} {r : Int} (hr : 1 ≤ r ∧ r ≤ 3) : (cands e r).length ≤ 49 := by
 have := candL_len (e := e) hr (n := (2 * r + 1).toNat) (a := -r) (by omega)
 unfold cands; omega
theorem best_spec (sv : Value) (l : List XL) (o : Lrn) (hr : 1 ≤ o.reach ∧ o.reach ≤ 3) (h0 : 1 ≤ o.least) (hl : l.length ≤ 1000000) (hok : ∀ e ∈ l, ExOk e) (w : World) (hs : Stb w [] (RdL sv l)) (hin : Stb w [] fun w' => ∀ u ∈ l, ExIn u w') :
   Calls Tryz.prog 150 #[sv, val o] w fun e w' => e = .returned (.tuple #[val ((bestC l o.reach o.least).getD default), .bool (bestC l o.reach o.least).isSome]) ∧ Cl w [] [] w' := by
 have hLn := rd_len hs.here
 refine calls_cwM (vs := [_, _]) Tryz.func150 rfl Tryz.ntmps150 rfl (Cl.start0 w) (zr ?_)
 refine sw_x rfl rfl rfl (e_box rfl rfl rfl) (fun b3 => ?_)
 refine sw_x rfl rfl rfl (e_alloc rfl) (fun b4 => ?_)
 refine za rfl (nP (zr ?_))
 refine sw_x rfl rfl rfl (e_makeMap (κ := TT) (ν := SlV) rfl) (fun b15 => ?_)
 refine sw_x rfl rfl rfl (e_alloc rfl) (fun b6 => ?_)
 refine sw_eff0 rfl rfl (e_store (i := 0) rfl rfl rfl rfl rfl rfl rfl rfl) (nP (cw_seq (zr (zm rfl ?_))))
 refine zS rfl (q_len rfl (.k rfl (.nil)) (stA (by assumption))) ?_
 refine zm rfl (nP (cw_block ?_))
 refine cw_loopD (S := Nat × List Nat × List (TT × SlV)) (fun y => y.2.1.map Go.Sx.mark) (fun y => [(3, [], .pointer (some ⟨b3, 0, none⟩)), (4, [], .pointer (some ⟨b4, 0, none⟩)), (5, [], .bool false), (6, [], .pointer (some ⟨b6, 0, none⟩)), (16, [], sv), (17, [], .int .i64 l.length), (18, [], .int .i64 y.1)]) (fun y => Cl w [] ((mpA b15 y.2.2 :: blk b6 [.map (some b15)] 250 :: blk b3 (enc o) 40 :: blk b4 (enc (default : Tly)) 213 :: marksA y.2.1) ++ rowsK 179 y.2.2 (heldC (l.take y.1) o.reach))) (fun y => y.1 ≤ l.length ∧ (y.2.2.map (·.1)).Nodup ∧ y.2.2.length ≤ 49 * y.1 ∧ ∀ k, get? y.2.2 k = none → heldC (l.take y.1) o.reach k = []) (fun y => l.length - y.1) (0, [], []) ⟨by simp, by simp, by simp, fun k _ => by simp [heldC]⟩ (by exact .cons rfl (.cons rfl (.cons rfl (.cons rfl (.cons rfl (.cons rfl (.cons rfl .nil))))))) (fun _ h => (Cl.sel (by exact .take 1 rfl (.take 0 rfl (.take 1 rfl (.take 0 rfl (.nil _)))))) _ h) ?_
 rintro ⟨i, bs, m⟩ ⟨hi, hmn, hml, hm0⟩
 dsimp only at hi hmn hml hm0 ⊢
 refine zr (zS rfl (q_lss rfl rfl rfl) (nP (cw_seq ?_)))
 refine cw_cond rfl (fun h => ?_) (fun h => ?_)
 · have hi' : i < l.length := by simp at h; omega
   obtain ⟨e, hee⟩ : ∃ e, nth l i = e := ⟨_, rfl⟩
   have hem : e ∈ l := by rw [← hee]; exact nth_mem hi'
   have heo := hok e hem
   have hew : Stb w [] (RdL e.w.v e.wl) := stb_map hin fun _ h => (h e hem).1
   have hnd := cands_nodup (e := e) hr.1
   refine sP (cw_seq (cw_block (zr ?_)))
   refine zS rfl (q_indexN rfl rfl rfl (stA (by assumption)) (by intro hc; omega)) ?_
   refine zS rfl (q_loadEl rfl rfl rfl (stA (by assumption)) (by intro hc; omega)) ?_
   rw [hee]
   refine sw_x rfl rfl rfl (e_alloc rfl) (fun b8 => ?_)
   refine sw_eff0 rfl rfl (e_store (i := 0) rfl rfl rfl rfl rfl rfl rfl rfl) (nP (zr ?_))
   refine zS rfl (q_loadA rfl rfl (by exact .head _) rfl) ?_
   refine zS rfl (q_fieldAddr rfl rfl) ?_
   refine zS rfl (q_loadC rfl rfl (by exact .tail _ (.tail _ (.tail _ (.head _)))) rfl) ?_
   refine sw_x rfl rfl rfl (e_call (CanCall.mk Tryz.call186) rfl (.k rfl (.k rfl (.nil))) (fun w1 hw => makeCands_spec e o.reach w1)) (fun bb => ?_)
   refine sw_imp fun _ => (nP (cw_block ?_))
   refine cw_rangeFunc (fun ll bd jump H' => jump = none ∧ ∃ m' : List (TT × SlV), (m'.map (·.1)).Nodup ∧ m'.length ≤ 49 * (i + 1) ∧ (∀ k, get? m' k = none → heldC (l.take (i + 1)) o.reach k = []) ∧ H' = (obj bd (.deferred (some [])) :: mpA b15 m' :: blk b6 [.map (some b15)] 250 :: blk b3 (enc o) 40 :: blk b4 (enc (default : Tly)) 213 :: marksA bs) ++ rowsK 179 m' (heldC (l.take (i + 1)) o.reach)) (CanCall.mk Tryz.call202) rfl ?_ ?_ ?_
   · intro ll bd L w1 hL hw1
     refine Calls.mono (cands_spec (S := List (TT × SlV) × List TT) ll bb.1 bb.2 e o.reach hr heo.at0 w [] (fun x => (obj ll (L .ready none) :: obj bd (.deferred (some [])) :: blk b8 (enc e) 179 :: mpA b15 x.1 :: blk b6 [.map (some b15)] 250 :: blk b3 (enc o) 40 :: blk b4 (enc (default : Tly)) 213 :: marksA bs) ++ rowsK 179 x.1 (heldF l o.reach i x.2)) (fun rest x => cands e o.reach = x.2 ++ rest ∧ (x.1.map (·.1)).Nodup ∧ x.1.length ≤ 49 * i + x.2.length ∧ ∀ k, get? x.1 k = none → heldF l o.reach i x.2 k = []) (m, []) (fun s X w' hw' => stb_arg hw' hew) ?_ ⟨rfl, hmn, by simpa using hml, by rw [heldF_nil]; exact hm0⟩ w1 ?_) ?_
     · rintro t rest ⟨m2, done⟩ ⟨hd, hn2, hl2, hg2⟩ X w2 hw2
       dsimp only at hd hn2 hl2 hg2 hw2 ⊢
       have htd : t ∉ done := by
         intro ht
         rw [hd, List.nodup_append] at hnd
         exact hnd.2.2 t ht t (.head _) rfl
       have hlen := heldF_len l o.reach i done t
       have hd2 : cands e o.reach = (done ++ [t]) ++ rest := by rw [hd]; simp
       refine asks_of (i := 0) (H := obj ll (L .ready none) :: obj bd (.deferred (some [])) :: blk b8 (enc e) 179 :: mpA b15 m2 :: blk b6 [.map (some b15)] 250 :: blk b3 (enc o) 40 :: blk b4 (enc (default : Tly)) 213 :: ((marksA bs ++ X) ++ rowsK 179 m2 (heldF l o.reach i done))) hL rfl (hw2.perm (perm_x (A := obj ll (L .ready none) :: obj bd (.deferred (some [])) :: blk b8 (enc e) 179 :: mpA b15 m2 :: blk b6 [.map (some b15)] 250 :: blk b3 (enc o) 40 :: blk b4 (enc (default : Tly)) 213 :: [])).symm) rfl rfl (cw_region ?_)
       refine sw_x rfl rfl rfl (e_alloc rfl) (fun b9 => ?_)
       refine sw_eff0 rfl rfl (e_store (i := 0) rfl rfl rfl rfl rfl rfl rfl rfl) (sw_nil (post_begin (i := 1) hL rfl (cw_block (cw_region ?_))))
       refine zS rfl (q_loadC rfl rfl (by exact .tail _ (.tail _ (.tail _ (.tail _ (.tail _ (.head _)))))) rfl) ?_
       refine zS rfl (q_loadA rfl rfl (by exact .head _) rfl) ?_
       refine zS rfl (q_loadA rfl rfl (by exact .tail _ (.tail _ (.tail _ (.head _)))) rfl) ?_
       refine sw_x rfl rfl rfl (e_buildL (α := XL) (l := [e]) rfl (.k rfl (.nil)) rfl rfl rfl rfl) (fun s31 => ?_)
       refine sw_le (C' := Cl w [] (ownL 179 (getZ (default : SlV) m2 t).v (heldF l o.reach i done t) :: ownL 179 s31.v [e] :: blk b9 (enc t) 211 :: obj ll (L .busy none) :: obj bd (.deferred (some [])) :: blk b8 (enc e) 179 :: mpA b15 m2 :: blk b6 [.map (some b15)] 250 :: blk b3 (enc o) 40 :: blk b4 (enc (default : Tly)) 213 :: ((marksA bs ++ X) ++ rowsK 179 (eraseK m2 t) (heldF l o.reach i done)))) (fun w' h => open_row (H := ownL 179 s31.v [e] :: blk b9 (enc t) 211 :: obj ll (L .busy none) :: obj bd (.deferred (some [])) :: blk b8 (enc e) 179 :: mpA b15 m2 :: blk b6 [.map (some b15)] 250 :: blk b3 (enc o) 40 :: blk b4 (enc (default : Tly)) 213 :: (marksA bs ++ X)) hn2 (hg2 t) h) ?_
       refine sw_x rfl rfl rfl (e_mapEntry (i := 6) (k := t) (z := (default : SlV)) rfl rfl rfl rfl) (fun x => ?_)
       refine sw_imp fun hX => ?_
       have hxv := entX_v hX
       obtain ⟨xes, xcl, xm, xv, xst⟩ := x
       dsimp only at hxv hX ⊢
       subst hxv
       refine zS rfl (q_extract rfl rfl rfl) ?_
       refine sw_x rfl rfl rfl (e_append (i := 0) (r := [e]) rfl (.k rfl (.k rfl (.nil))) rfl rfl (fun w1 h1 => rd_own (e := 179) (l := [e]) h1 (by exact .tail _ (.head _))) (by simp only [List.length_cons, List.length_nil]; omega) rfl) (fun s33 => ?_)
       refine zS rfl (q_extract rfl rfl rfl) (sw_eff0 rfl rfl (e_entryStore (i := 6) (l := m2) (k := t) (v := s33) (z := (default : SlV)) rfl rfl rfl rfl hX rfl) (sw_nil (post_blk ?_)))
       refine post_round (i := 3) hL rfl fun w3 hw3 => ⟨true, rfl, rfl, (upd m2 t s33, done ++ [t]), ⟨hd2, upd_nodup _ _ _ hn2, ?_, fun k hk => ?_⟩, ?_⟩
       · have := upd_len t s33 m2
         simp only [List.length_append, List.length_cons, List.length_nil]; omega
       · simp only [get?_upd] at hk
         split at hk
         · cases hk
         · rename_i hkt
           simp only
           rw [heldF_ne hkt]; exact hg2 k hk
       · have h5 := shut_row (f := heldF l o.reach i done) (f' := heldF l o.reach i (done ++ [t])) (H := ownL 179 s31.v [e] :: blk b9 (enc t) 211 :: obj ll (L .ready none) :: obj bd (.deferred (some [])) :: blk b8 (enc e) 179 :: mpA b15 (upd m2 t s33) :: blk b6 [.map (some b15)] 250 :: blk b3 (enc o) 40 :: blk b4 (enc (default : Tly)) 213 :: (marksA bs ++ X)) hn2 (fun k' hk' => heldF_ne hk') (heldF_self htd) (by rw [hee]; exact hw3)
         exact (h5.tail.tail).perm (perm_x (A := obj ll (L .ready none) :: obj bd (.deferred (some [])) :: blk b8 (enc e) 179 :: mpA b15 (upd m2 t s33) :: blk b6 [.map (some b15)] 250 :: blk b3 (enc o) 40 :: blk b4 (enc (default : Tly)) 213 :: []))
     · rw [heldF_nil]
       exact hw1.perm (List.perm_append_comm_assoc [obj ll (L .ready none), obj bd (.deferred (some []))] [blk bb.1 [.int .i64 o.reach] 3, blk bb.2 (enc e) 179] _)
     · rintro e' w' ⟨rfl, ⟨m', done⟩, ⟨hd, hn', hl', hg'⟩, hw'⟩
       dsimp only at hd hn' hl' hg' hw'
       rw [List.append_nil] at hd
       subst hd
       have hcl := cands_len (e := e) hr
       have hfa : heldF l o.reach i (cands e o.reach) = heldC (l.take (i + 1)) o.reach := by rw [← hee]; exact heldF_all hi'
       rw [hfa] at hg' hw'
       refine ⟨⟨_, rfl⟩, .ready, none, _, ⟨rfl, m', hn', by omega, hg', rfl⟩, by simp, ?_⟩
       exact ((Cl.tail (Cl.tail hw')).perm (List.perm_append_comm_assoc [obj ll (L .ready none), obj bd (.deferred (some []))] [blk b8 (enc e) 179] _)).tail
   · rintro ll bd H' ⟨_, m', hn', hl', hg', rfl⟩
     refine post_blk (post_blk (post_then (cw_region ?_)))
     refine zS rfl (q_add rfl rfl rfl (by intro hc; omega)) ?_
     refine zm rfl (sw_nil ?_)
     refine post_nextD (i + 1, bd :: bs, m') rfl (by exact .cons rfl (.cons rfl (.cons rfl (.cons rfl (.cons rfl (.cons rfl (.cons rfl .nil))))))) (fun w' h => ?_) ⟨by simp only; omega, hn', by simp only; omega, hg'⟩ (by simp only; omega)
     exact h.perm (List.perm_middle (l₁ := [mpA b15 m', blk b6 [.map (some b15)] 250, blk b3 (enc o) 40, blk b4 (enc (default : Tly)) 213])).symm
   · rintro ll bd c H' ⟨h2, _⟩
     cases h2
 · have hi' : i = l.length := by simp at h; omega
   subst hi'
   rw [List.take_length] at hm0 ⊢
   refine cw_c (C' := Cl w [] (Sx.frz (fun w' => ∀ kv ∈ m, RdL kv.2.v (heldC l o.reach kv.1) w') :: mpA b15 m :: blk b6 [.map (some b15)] 250 :: blk b3 (enc o) 40 :: blk b4 (enc (default : Tly)) 213 :: marksA bs)) (fun w' h => (rowsK_frz h).perm List.perm_append_comm) (cw_exit (post_then_x (post_then_x (post_blk_eq (post_then (zr (za rfl (nP (cw_seq (cw_seq (cw_region ?_)))))))))))
   refine zS rfl (q_loadC rfl rfl (by exact .tail _ (.tail _ (.head _))) rfl) ?_
   refine sw_le (cl_open (i := 1) rfl) (sw_ex fun es => sw_ex fun clock => sw_imp fun hok2 => ?_)
   obtain ⟨ok, hkv⟩ := hok2
   have hkn : ∀ x ∈ es, (x.1, x.2.1) ∈ m := fun x hx => by rw [← hkv]; exact List.mem_map.2 ⟨x, hx, rfl⟩
   have hesl : es.length = m.length := by rw [← hkv]; simp [kvs]
   have hIsT : ∀ x, (∃ en ∈ es, tlyOf l o.reach en.1 = x ∧ o.least ≤ x.n) ↔ IsT l o.reach o.least x := fun x => by
     constructor
     · rintro ⟨en, hen, rfl, hx⟩
       have h1 : heldC l o.reach en.1 ≠ [] := fun e1 => by
         unfold tlyOf at hx; rw [e1] at hx; simp at hx; omega
       obtain ⟨q, hq⟩ := List.exists_mem_of_ne_nil _ h1
       unfold heldC at hq
       simp only [List.mem_filter, decide_eq_true_eq] at hq
       exact ⟨q, hq.1, en.1, hq.2, rfl, hx⟩
     · rintro ⟨q, hq, t, ht, rfl, hx⟩
       have h1 : get? m t ≠ none := fun e1 => by
         have h2 := hm0 t e1
         have h3 : q ∈ heldC l o.reach t := by unfold heldC; simp [hq, ht]
         rw [h2] at h3; simp at h3
       have h4 : t ∈ m.map (·.1) := by
         by_cases h5 : t ∈ m.map (·.1)
         · exact h5
         · exact absurd (get?_none.2 h5) h1
       rw [← hkv, kvs_keys] at h4
       obtain ⟨en, hen, rfl⟩ := List.mem_map.1 h4
       exact ⟨en, hen, rfl, hx⟩
   refine sw_x rfl rfl rfl (e_range (es := es) rfl rfl (by exact fun w hw => cl_obj_at (i := 1) rfl hw)) (fun r37 => ?_)
   refine nP (cw_block ?_)
   refine cw_loop (S := Array Nat × SlV × List Tly) (fun y => [(3, [], .pointer (some ⟨b3, 0, none⟩)), (4, [], .pointer (some ⟨b4, 0, none⟩)), (5, [], .bool false), (10, [], y.2.1.v), (37, [], .pointer (some ⟨r37, 0, none⟩))]) (fun y => Cl w [] (ownL 213 y.2.1.v y.2.2 :: obj r37 (itO b15 clock y.1) :: Sx.frz (fun w' => ∀ kv ∈ m, RdL kv.2.v (heldC l o.reach kv.1) w') :: obj b15 (mapO es clock) :: blk b6 [.map (some b15)] 250 :: blk b3 (enc o) 40 :: blk b4 (enc (default : Tly)) 213 :: marksA bs)) (fun y => (∀ x, (x ∈ y.2.2 ∨ ∃ en ∈ left es y.1, tlyOf l o.reach en.1 = x ∧ o.least ≤ x.n) ↔ IsT l o.reach o.least x) ∧ y.2.2.length + (left es y.1).length ≤ es.length) (fun y => (left es y.1).length) (#[], ⟨none, 0, 0⟩, []) ⟨fun x => by rw [left_nil]; simpa using hIsT x, by simp [left_nil]⟩ (by exact .cons rfl (.cons rfl (.cons rfl (.cons rfl (.cons rfl .nil))))) (fun w' h => Cl.addNil 213 h) ?_
   rintro ⟨seen, so, out⟩ ⟨hT, hol⟩
   dsimp only at hT hol ⊢
   refine zr ?_
   refine sw_x rfl rfl rfl (e_next (i := 1) rfl rfl rfl ok (by exact fun w hw => cl_obj_at (i := 3) rfl hw)) (fun y38 => ?_)
   refine zS rfl (q_extract rfl rfl (nextV_0 _)) (nP (cw_seq ?_))
   refine cw_cond rfl (fun h2 => ?_) (fun h2 => ?_)
   · obtain ⟨en, rfl⟩ := Option.isSome_iff_exists.1 h2
     refine cw_next_some fun he => ?_
     have hes : en ∈ es := (List.mem_filter.1 he).1
     have hperm := left_perm ok he
     have hlen := hperm.length_eq
     have hmem := hkn en hes
     simp only [List.length_cons] at hlen
     obtain ⟨t, sl, born⟩ := en
     dsimp only at hmem hlen hperm ⊢
     have hhl := held_le (r := o.reach) l t
     have hT2 : ∀ x, (x ∈ out ∨ (tlyOf l o.reach t = x ∧ o.least ≤ x.n) ∨ ∃ en ∈ left es (seen.push born), tlyOf l o.reach en.1 = x ∧ o.least ≤ x.n) ↔ IsT l o.reach o.least x := fun x => by
       rw [← hT x]
       constructor
       · rintro (h1 | h1 | ⟨en, hen, h1⟩)
         · exact .inl h1
         · exact .inr ⟨_, hperm.mem_iff.2 (.head _), h1⟩
         · exact .inr ⟨en, hperm.mem_iff.2 (.tail _ hen), h1⟩
       · rintro (h1 | ⟨en, hen, h1⟩)
         · exact .inl h1
         · rcases List.mem_cons.1 (hperm.mem_iff.1 hen) with rfl | h3
           · exact .inr (.inl h1)
           · exact .inr (.inr ⟨en, h3, h1⟩)
     refine sP (cw_block (zr ?_))
     refine zS rfl (q_entry (e := (t, sl, born)) rfl rfl (.tail _ (.head _)) ok hes (by exact fun w hw => cl_obj_at (i := 3) rfl hw)) ?_
     refine zS rfl (q_extract rfl rfl rfl) (zS rfl (q_extract rfl rfl rfl) ?_)
     refine sw_x rfl rfl rfl (e_alloc rfl) (fun b11 => ?_)
     refine sw_eff0 rfl rfl (e_store (i := 0) rfl rfl rfl rfl rfl rfl rfl rfl) (za rfl (nP (zr (zm rfl ?_))))
     refine zS rfl (q_len (xs := heldC l o.reach t) rfl (.k rfl (.nil)) (fun w1 h1 => rd_frz (R := fun w' => ∀ kv ∈ m, RdL kv.2.v (heldC l o.reach kv.1) w') h1 (by exact .tail _ (.tail _ (.tail _ (.head _)))) (t, sl) hmem)) ?_
     refine zS rfl (q_fieldAddr rfl rfl) ?_
     refine zS rfl (q_loadC rfl rfl (by exact .tail _ (.tail _ (.tail _ (.tail _ (.tail _ (.tail _ (.head _))))))) rfl) ?_
     refine zS rfl (q_geq rfl rfl rfl) (nP ?_)
     refine cw_cond rfl (fun h3 => ?_) (fun h3 => ?_)
     · have hx : o.least ≤ (heldC l o.reach t).length := by simpa using h3
       have hT3 : ∀ x, (x ∈ out ++ [tlyOf l o.reach t] ∨ ∃ en ∈ left es (seen.push born), tlyOf l o.reach en.1 = x ∧ o.least ≤ x.n) ↔ IsT l o.reach o.least x := fun x => by
         rw [← hT2 x]
         simp only [List.mem_append, List.mem_singleton]
         constructor
         · rintro ((h1 | h1) | h1)
           · exact .inl h1
           · exact .inr (.inl ⟨h1.symm, by rw [h1]; exact hx⟩)
           · exact .inr (.inr h1)
         · rintro (h1 | h1 | h1)
           · exact .inl (.inl h1)
           · exact .inl (.inr h1.1.symm)
           · exact .inr h1
       refine zr (zm rfl ?_)
       refine sw_step rfl rfl rfl (q_call (CanCall.mk Tryz.call149) rfl (.k rfl (.nil)) (fun _ w1 hw => callq hw (most_spec _ (heldC l o.reach t) (by omega) (fun e he => hok e (List.mem_filter.1 he).1) w1 ((stb_frz (R := fun w' => ∀ kv ∈ m, RdL kv.2.v (heldC l o.reach kv.1) w') hw (by exact .tail _ (.tail _ (.tail _ (.head _))))).mono fun w2 h4 => h4 (t, sl) hmem) (stb_arg hw (stb_map hin fun _ h u hu => h u (List.mem_filter.1 hu).1))))) ?_
       obtain ⟨ms, hms⟩ : ∃ ms, mostC (heldC l o.reach t) = ms := ⟨_, rfl⟩
       obtain ⟨nn, hnn⟩ : ∃ nn, (heldC l o.reach t).length = nn := ⟨_, rfl⟩
       have htl : tlyOf l o.reach t = ⟨t, ms.s, nn, ms.m, ms.b⟩ := by unfold tlyOf; rw [hms, hnn]
       rw [hms]
       rw [htl] at hT3
       refine zm rfl (zS rfl (q_extract rfl rfl rfl) (zS rfl (q_extract rfl rfl rfl) (za rfl (za rfl (nP (cw_region (zm rfl ?_)))))))
       refine zS rfl (q_loadA rfl rfl (by exact .head _) rfl) ?_
       refine zm rfl (zm rfl ?_)
       refine zS rfl (q_len (xs := heldC l o.reach t) rfl (.k rfl (.nil)) (fun w1 h1 => rd_frz (R := fun w' => ∀ kv ∈ m, RdL kv.2.v (heldC l o.reach kv.1) w') h1 (by exact .tail _ (.tail _ (.tail _ (.head _)))) (t, sl) hmem)) ?_
       rw [hnn]
       refine zm rfl ?_
       refine zS rfl (q_build (cells := enc (⟨t, ms.s, nn, ms.m, ms.b⟩ : Tly)) rfl (.k rfl (.k rfl (.k rfl (.k rfl (.nil))))) (by kernel_rfl)) ?_
       refine sw_x rfl rfl rfl (e_buildL (α := Tly) (l := [⟨t, ms.s, nn, ms.m, ms.b⟩]) rfl (.k rfl (.nil)) rfl rfl rfl rfl) (fun s60 => ?_)
       refine sw_x rfl rfl rfl (e_append (i := 2) rfl (.k rfl (.k rfl (.nil))) rfl rfl (rdO (by exact .head _)) (by first | omega | (simp only [List.length_set, List.length_append, List.length_cons, List.length_nil, List.length_replicate, List.length_take, List.length_drop, List.length_map]; omega)) rfl) (fun s61 => ?_)
       refine za rfl (sw_nil (post_blk ?_))
       exact post_next (seen.push born, s61, out ++ [({ t := t, p := ms.s, n := (nn : Int), m := ms.m, pl := ms.b } : Tly)]) (by exact .cons rfl (.cons rfl (.cons rfl (.cons rfl (.cons rfl .nil))))) (fun w' h => h.tail.tail) ⟨hT3, by simp only [List.length_append, List.length_cons, List.length_nil]; omega⟩ (by simp only; omega)
     · have hx : ¬ o.least ≤ (heldC l o.reach t).length := by simpa using h3
       have hT3 : ∀ x, (x ∈ out ∨ ∃ en ∈ left es (seen.push born), tlyOf l o.reach en.1 = x ∧ o.least ≤ x.n) ↔ IsT l o.reach o.least x := fun x => by
         rw [← hT2 x]
         constructor
         · rintro (h1 | h1)
           · exact .inl h1
           · exact .inr (.inr h1)
         · rintro (h1 | ⟨h1, h2⟩ | h1)
           · exact .inl h1
           · exact absurd (by rw [← h1] at h2; exact h2) hx
           · exact .inr h1
       refine cw_skip (post_blk ?_)
       exact post_next (seen.push born, so, out) (by exact .cons rfl (.cons rfl (.cons rfl (.cons rfl (.cons rfl .nil))))) (fun w' h => h.tail) ⟨hT3, by simp only; omega⟩ (by simp only; omega)
   · have hn : y38 = none := by cases y38 <;> simp_all
     subst hn
     refine cw_next_none fun hl0 => ?_
     have hT2 : ∀ x, x ∈ out ↔ IsT l o.reach o.least x := fun x => by
       rw [← hT x, hl0]; simp
     obtain ⟨z1, z2⟩ := best_eq hr h0 hT2
     refine cw_exit (post_then_x (post_then_x (post_blk_eq (post_then (cw_seq (zr (zm rfl ?_)))))))
     refine zS rfl (q_len rfl (.k rfl (.nil)) (rdO (by exact .head _))) ?_
     refine zS rfl (q_eql rfl rfl rfl) (nP ?_)
     refine cw_cond rfl (fun h3 => ?_) (fun h3 => ?_)
     · have h4 : out = [] := by
         cases out with
         | nil => rfl
         | cons => simp at h3; omega
       have h5 := z1 h4
       refine zr (zS rfl (q_build rfl (.nil) rfl) (sw_eff0 rfl rfl (e_store (i := 6) rfl rfl rfl rfl rfl rfl rfl rfl) (za rfl (nP (cw_ret (post_then_r (post_takesA (bs := bs) (ownL 213 so.v out :: obj r37 (itO b15 clock seen) :: Sx.frz (fun w' => ∀ kv ∈ m, RdL kv.2.v (heldC l o.reach kv.1) w') :: obj b15 (mapO es clock) :: blk b6 [.map (some b15)] 250 :: blk b3 (enc o) 40 :: blk b4 (enc (default : Tly)) 213 :: []) (post_retM ?_))))))))
       refine post_ret2 rfl (resOk_blk (x := (default : Tly)) rfl (by exact .tail _ (.tail _ (.tail _ (.tail _ (.tail _ (.tail _ (.head _))))))) (by rfl)) (resOk_tmp rfl) ?_
       exact fun w' hw => ⟨by rw [h5]; rfl, (Cl.sel (by exact .nil _)) _ hw⟩
     · have h4 : 0 < out.length := by cases out with
         | nil => simp at h3
         | cons => simp
       have h5 := z2 h4
       obtain ⟨u, hu⟩ : ∃ u, minBy betC out = u := ⟨_, rfl⟩
       refine sP (zr (zm rfl ?_))
       refine sw_step rfl rfl rfl (q_call (CanCall.mk Tryz.call187) rfl (.k rfl (.k rfl (.nil))) (fun _ w1 hw => callq hw (minFunc_spec _ out 188 betC (fun _ => True) (CanCall.mk Tryz.call188) h4 w1 (by exact stb_own hw (by exact .head _)) (stb_true w1 []) (fun x hx y hy w2 _ => better_spec x y (isT_bd hr hl ((hT2 x).1 hx)) (isT_bd hr hl ((hT2 y).1 hy)) w2)))) ?_
       rw [hu]
       rw [hu] at h5
       refine sw_eff0 rfl rfl (e_store (i := 6) rfl rfl rfl rfl rfl rfl rfl rfl) (za rfl (nP (cw_ret (post_takesA (bs := bs) (ownL 213 so.v out :: obj r37 (itO b15 clock seen) :: Sx.frz (fun w' => ∀ kv ∈ m, RdL kv.2.v (heldC l o.reach kv.1) w') :: obj b15 (mapO es clock) :: blk b6 [.map (some b15)] 250 :: blk b3 (enc o) 40 :: blk b4 (enc u) 213 :: []) (post_retM ?_)))))
       refine post_ret2 rfl (resOk_blk (x := u) rfl (by exact .tail _ (.tail _ (.tail _ (.tail _ (.tail _ (.tail _ (.head _))))))) (by rfl)) (resOk_tmp rfl) ?_
       exact fun w' hw => ⟨by rw [h5]; rfl, (Cl.sel (by exact .nil _)) _ hw⟩
end Go.Proofs.YtkmbliojafefdaaGreatDoor

set_option autoImplicit false
set_option maxRecDepth 100000
namespace Go.Proofs.YtkmbliojafefdaaGreatDoor
open Go.Sx
open Enc (enc val)
theorem holdsX_fail (b : Nat) (e : XL) (hat : 0 ≤ e.at_ ∧ e.at_ ≤ 1000) (t : List Cond) (ht : ∀ c ∈ t, CondB c) : PredL Tryz.prog 190 #[.pointer (some ⟨b, 0, none⟩)] (fun c : Cond => !decide (lookC e.wl (e.at_ + c.at_) = c.c)) (fun w => BlkAt b (enc e) 179 w ∧ RdL e.w.v e.wl w) t := by
 intro c hc w ⟨hR1, hR2⟩
 have h1 := blk_stb hR1
 have h2 := rd_stb hR2
 have hcb : -1000 ≤ c.at_ ∧ c.at_ ≤ 1000 := ht c hc
 refine calls_cw (vs := [_, _]) Tryz.func190 rfl Tryz.ntmps190 rfl (Cl.start0 w) (zr ?_)
 refine sw_x rfl rfl rfl (e_box rfl rfl rfl) (fun b2 => ?_)
 refine za rfl (nP (cw_seq ?_))
 refine cw_region_q mixed_Tryz (by kernel_rfl) ?_
 refine zq rfl (q_fieldAddr rfl rfl) ?_
 refine zq rfl (q_loadS rfl rfl (fun w hw => Stb.cl (by assumption) hw) rfl) ?_
 refine zq rfl (q_fieldAddr rfl rfl) ?_
 refine zq rfl (q_loadS rfl rfl (fun w hw => Stb.cl (by assumption) hw) rfl) ?_
 refine zq rfl (q_fieldAddr rfl rfl) ?_
 refine zq rfl (q_loadC rfl rfl (by exact .head _) rfl) ?_
 refine zq rfl (q_add rfl rfl rfl (by intro hc; omega)) ?_
 refine qw_step rfl rfl rfl (q_call (CanCall.mk Tryz.call170) rfl (.k rfl (.k rfl (.nil))) (fun _ w hw => callq hw (look_spec _ _ _ w (by exact stb_arg hw (by assumption))))) ?_
 refine zq rfl (q_fieldAddr rfl rfl) ?_
 refine zq rfl (q_loadC rfl rfl (by exact .head _) rfl) ?_
 refine zq rfl (q_neq rfl rfl rfl) (zq rfl (q_assign rfl rfl) (qw_end (post_then (cw_ret (post_ret1 rfl (resOk_tmp rfl) ?_)))))
 exact fun w' hw => ⟨rfl, (Cl.sel (by exact .nil _)) _ hw⟩
theorem holdsX_spec (e : XL) (hat : 0 ≤ e.at_ ∧ e.at_ ≤ 1000) (sv : Value) (t : List Cond) (ht : ∀ c ∈ t, CondB c) (w : World) (hs : Stb w [] (RdL sv t)) (hw0 : Stb w [] (RdL e.w.v e.wl)) : Calls Tryz.prog 155 #[val e, sv] w fun e' w' => e' = .returned (.bool (holdsC e.wl e.at_ t)) ∧ Cl w [] [] w' := by
 refine calls_cw (vs := [_, _]) Tryz.func155 rfl Tryz.ntmps155 rfl (Cl.start0 w) (zr ?_)
 refine sw_x rfl rfl rfl (e_box rfl rfl rfl) (fun b2 => ?_)
 refine za rfl (nP (zr (zm rfl (zS rfl (q_func_l rfl (.k rfl (.nil))) ?_))))
 refine sw_step rfl rfl rfl (q_call (CanCall.mk Tryz.call124) rfl (.k rfl (.k rfl (.nil))) (fun _ w hw => callq hw (hasCond_spec _ t _ _ _ (fun w => BlkAt b2 (enc e) 179 w ∧ RdL e.w.v e.wl w) w (by exact stb_arg hw (by assumption)) ⟨fun w' k => ⟨(stb_blk (t := 179) hw (by exact .head _)).stb w' k, (stb_arg hw hw0).stb w' k⟩⟩ (CanCall.mk Tryz.call190) (holdsX_fail b2 e hat t ht)))) ?_
 refine zS rfl (q_not rfl rfl) (za rfl (nP (cw_ret (post_ret1 rfl (resOk_tmp rfl) ?_))))
 refine fun w' hw => ⟨?_, (Cl.sel (by exact .nil _)) _ hw⟩
 rw [all_not_any, Bool.not_not]; rfl
theorem heldBy_spec (b : Nat) (u : Tly) (hu : TTB u.t) (l : List XL) (hat : ∀ e ∈ l, 0 ≤ e.at_ ∧ e.at_ ≤ 1000) : PredL Tryz.prog 154 #[.pointer (some ⟨b, 0, none⟩)] (fun e : XL => holdsC e.wl e.at_ u.t.list) (fun w => BlkAt b (enc u) 213 w ∧ ∀ e ∈ l, RdL e.w.v e.wl w) l := by
 intro e he w ⟨hR1, hR2⟩
 have h1 := blk_stb hR1
 have h2 := rd_stb (hR2 e he)
 have hte := hat e he
 have htb := list_bd hu
 refine calls_cw (vs := [_, _]) Tryz.func154 rfl Tryz.ntmps154 rfl (Cl.start0 w) (zr ?_)
 refine sw_x rfl rfl rfl (e_box rfl rfl rfl) (fun b2 => ?_)
 refine za rfl (nP (cw_seq (cw_region_a (Cl w [] [blk b2 (enc e) 179]) [] mixed_Tryz ?_)))
 refine zk 1 (Cl.sel (by exact .take 0 rfl (.nil _))) rfl (q_fieldAddr rfl rfl) ?_
 refine zk 0 (Cl.sel (by exact .take 0 rfl (.nil _))) rfl (q_loadA rfl rfl (by exact .head _) rfl) ?_
 refine zk 2 (Cl.sel (by exact .take 0 rfl (.nil _))) rfl (q_loadAS rfl rfl (fun w hw => Stb.cl h1 hw) (by kernel_rfl)) ?_
 refine aw_x 3 (by kernel_rfl) rfl rfl rfl rfl (e_call (CanCall.mk Tryz.call151) rfl (.k rfl (.nil)) (fun w1 hw => list_spec u.t w1)) (by intro hb; exact fun _ w h => (Cl.sel (by exact .take 1 rfl (.nil _))) w h.2) (fun s7 => ?_)
 refine aw_imp fun _ => ?_
 refine aw_q 4 (by kernel_rfl) rfl rfl rfl rfl (q_call (CanCall.mk Tryz.call155) rfl (.k rfl (.k rfl (.nil))) (fun _ w1 hw => callq hw (holdsX_spec e hte _ u.t.list htb w1 (by exact stb_own hw (by exact .head _)) (stb_arg hw h2)))) (by intro hb; exact (Cl.sel (by exact .take 1 rfl (.nil _)))) ?_
 refine zp 5 rfl (q_assign rfl rfl) ?_
 refine aw_end (by kernel_rfl) ?_
 refine post_then (cw_ret (post_ret1 rfl (resOk_tmp rfl) ?_))
 exact fun w' hw => ⟨rfl, (Cl.sel (by exact .nil _)) _ hw⟩
theorem del_step {l c : List XL} {p : XL → Bool} {i j : Nat} (hc : c.length = l.length) (hij : i < j) (hj : j < l.length) (h1 : c.take i = (l.take j).filter fun x => !p x) (h2 : c.drop j = l.drop j) :
   nth c j = nth l j ∧ (p (nth l j) = false → ((c.set i (nth l j)).take (i + 1) = (l.take (j + 1)).filter (fun x => !p x)) ∧ (c.set i (nth l j)).drop (j + 1) = l.drop (j + 1)) ∧ (p (nth l j) = true → (c.take i = (l.take (j + 1)).filter fun x => !p x) ∧ c.drop (j + 1) = l.drop (j + 1)) := by
 have hd : c.drop (j + 1) = l.drop (j + 1) := by rw [← List.drop_drop, ← List.drop_drop, h2]
 refine ⟨?_, fun hp => ⟨?_, ?_⟩, fun hp => ⟨?_, hd⟩⟩
 · have := congrArg List.head? h2
   rw [List.head?_drop, List.head?_drop] at this
   rw [nth_get (by omega), nth_get hj]
   rw [List.getElem?_eq_getElem (by omega), List.getElem?_eq_getElem hj] at this
   exact Option.some.inj this
 · rw [List.take_succ_eq_append_getElem (by simp; omega), List.getElem_set_self, List.take_set_of_le (Nat.le_refl _), h1, List.take_succ_eq_append_getElem hj, List.filter_append, nth_get hj]
   rw [nth_get hj] at hp
   simp [hp]
 · rw [List.drop_set_of_lt (by omega)]; exact hd
 · rw [h1, List.take_succ_eq_append_getElem hj, List.filter_append]
   rw [nth_get hj] at hp
   simp [hp]
theorem delF_spec (s : SlV) (l : List XL) (g : FuncId) (cap : Array Value) (p : XL → Bool) (R : World → Prop) (w : World) (bs : List Nat) (hs : Sep [ownL 179 s.v l] w bs) (hn : bs.Nodup) (hlt : ∀ b ∈ bs, b < w.heap.size) (hR : Stb w bs R) (hgc : CanCall Tryz.prog g) (hg : PredL Tryz.prog g cap p R l) :
   Calls Tryz.prog 152 #[s.v, .func (.func g) #[] cap] w fun e w' => ∃ r : SlV, e = .returned r.v ∧ True ∧ Cl w bs [ownL 179 r.v (l.filter fun x => !p x)] w' := by
 have hst := Cl.start hs hn hlt
 have hL := (rd_own (e := 179) (l := l) hst (.head _)).len
 have hLn := rd_len (rd_own (e := 179) (l := l) hst (.head _))
 refine calls_cw (vs := [_, _]) Tryz.func152 rfl Tryz.ntmps152 rfl hst (zr (za rfl (nP (cw_seq (cw_region (zm rfl (zm rfl (sw_step rfl rfl rfl (q_call (CanCall.mk Tryz.call189) rfl (.k rfl (.k rfl (.nil))) (fun _ w1 hw => callq hw (xl_index _ l g cap p R w1 (stb_own (e := 179) hw (.head _)) (stb_arg hw hR) hgc hg))) (za rfl (sw_nil (post_then (cw_seq (cw_seq (cw_region (zm rfl (zS rfl (q_eql rfl rfl rfl) (sw_nil (post_then ?_))))))))))))))))))
 refine cw_cond rfl (fun h => ?_) (fun h => ?_)
 · have h1 : (l.filter fun x => !p x) = l := by
     rw [List.filter_eq_self]
     intro x hx
     by_cases hp : p x = true
     · have : decide (0 ≤ idxP p l) = true := by rw [idxP_any]; exact List.any_eq_true.2 ⟨x, hx, hp⟩
       simp at h this; omega
     · simpa using hp
   refine zr (zm rfl (za rfl (nP (cw_ret (post_then_r (post_ret1 rfl (resOk_tmp rfl) ?_))))))
   exact fun w' hw => ⟨s, rfl, trivial, by rw [h1]; exact hw⟩
 · obtain ⟨k, hk⟩ : ∃ k : Nat, l.findIdx? p = some k := by
     cases hf : l.findIdx? p with
     | none => simp [idxP, hf] at h
     | some k => exact ⟨k, rfl⟩
   have hik : idxP p l = k := by unfold idxP; rw [hk]
   obtain ⟨hkl, hkp, hkn⟩ := List.findIdx?_eq_some_iff_getElem.1 hk
   have htk : l.take k = (l.take (k + 1)).filter fun x => !p x := by
     rw [List.take_succ_eq_append_getElem hkl, List.filter_append]
     have e1 : ((l.take k).filter fun x => !p x) = l.take k := by
       rw [List.filter_eq_self]
       intro x hx
       obtain ⟨q, hq, rfl⟩ := List.getElem_of_mem hx
       rw [List.length_take] at hq
       have := hkn q (by omega)
       rw [List.getElem_take]
       simpa using this
     rw [e1]; simp [hkp]
   rw [hik]
   refine sP (cw_seq (zr (zm rfl ?_)))
   refine zS rfl (q_add rfl rfl rfl (by intro hc; omega)) ?_
   refine za rfl (nP (cw_block ?_))
   refine cw_loop (S := Nat × Nat × List XL) (fun y => [(0, [], s.v), (1, [], .func (.func g) #[] cap), (5, [], .int .i64 y.1), (6, [], .int .i64 y.2.1)]) (fun y => Cl w bs [ownL 179 s.v y.2.2]) (fun y => y.1 < y.2.1 ∧ y.2.1 ≤ l.length ∧ y.2.2.length = l.length ∧ y.2.2.take y.1 = (l.take y.2.1).filter (fun x => !p x) ∧ y.2.2.drop y.2.1 = l.drop y.2.1) (fun y => l.length - y.2.1) (k, k + 1, l) ⟨by simp only; omega, by simp only; omega, rfl, htk, rfl⟩ (by exact .cons rfl (.cons rfl (.cons rfl (.cons rfl .nil)))) (fun _ h => h) ?_
   rintro ⟨i, j, c⟩ ⟨hij, hj, hcl, hct, hcd⟩
   dsimp only at hij hj hcl hct hcd ⊢
   refine cw_seq (zr (zm rfl (zm rfl ?_)))
   refine zS rfl (q_len rfl (.k rfl (.nil)) (rdO (by exact .head _))) ?_
   refine zS rfl (q_lss rfl rfl rfl) (nP ?_)
   refine cw_cond rfl (fun h2 => ?_) (fun h2 => ?_)
   · have hj' : j < l.length := by simp at h2; omega
     obtain ⟨d1, d2, d3⟩ := del_step hcl hij hj' hct hcd
     obtain ⟨x, hx⟩ : ∃ x, nth l j = x := ⟨_, rfl⟩
     rw [hx] at d1 d2 d3
     have hxm : x ∈ l := by rw [← hx]; exact nth_mem hj'
     refine sP (cw_seq (cw_block (zr (zm rfl (zm rfl ?_)))))
     refine zS rfl (q_indexN rfl rfl rfl (rdO (by exact .head _)) (by intro hc; omega)) ?_
     refine zS rfl (q_loadEl rfl rfl rfl (rdO (by exact .head _)) (by intro hc; omega)) ?_
     rw [d1]
     refine sw_x rfl rfl rfl (e_alloc rfl) (fun b7 => ?_)
     refine sw_eff0 rfl rfl (e_store (i := 0) rfl rfl rfl rfl rfl rfl rfl rfl) (nP (zr (zm rfl ?_)))
     refine zS rfl (q_loadA rfl rfl (by exact .head _) rfl) ?_
     refine sw_step rfl rfl rfl (q_callv hgc rfl rfl (.k rfl (.nil)) (fun _ w' hw => callq hw (hg x hxm w' (hR.cl hw)))) (zS rfl (q_not rfl rfl) (nP ?_))
     refine cw_cond rfl (fun h3 => ?_) (fun h3 => ?_)
     · have hp : p x = false := by simpa using h3
       obtain ⟨g1, g2⟩ := d2 hp
       refine zr (zm rfl (zm rfl ?_))
       refine zS rfl (q_loadA rfl rfl (by exact .head _) rfl) ?_
       refine zS rfl (q_indexN rfl rfl rfl (rdO (by exact .tail _ (.head _))) (by intro hc; omega)) ?_
       refine sw_eff0 rfl rfl (e_storeEl1 (i := 1) rfl rfl rfl rfl rfl (by omega)) ?_
       refine nP (cw_region (zm rfl ?_))
       refine zS rfl (q_add rfl rfl rfl (by intro hc; omega)) ?_
       refine za rfl (sw_nil (post_blk (post_then (cw_region (zm rfl ?_)))))
       refine zS rfl (q_add rfl rfl rfl (by intro hc; omega)) ?_
       refine za rfl (sw_nil ?_)
       exact post_next (i + 1, j + 1, c.set i x) (by exact .cons rfl (.cons rfl (.cons rfl (.cons rfl .nil)))) (fun _ h => (Cl.sel (by exact .take 1 rfl (.nil _))) _ h) ⟨by simp only; omega, by simp only; omega, by simp only [List.length_set]; omega, g1, g2⟩ (by simp only; omega)
     · have hp : p x = true := by simpa using h3
       obtain ⟨g1, g2⟩ := d3 hp
       refine cw_skip (post_blk (post_then (cw_region (zm rfl ?_))))
       refine zS rfl (q_add rfl rfl rfl (by intro hc; omega)) ?_
       refine za rfl (sw_nil ?_)
       exact post_next (i, j + 1, c) (by exact .cons rfl (.cons rfl (.cons rfl (.cons rfl .nil)))) (fun _ h => (Cl.sel (by exact .take 1 rfl (.nil _))) _ h) ⟨by simp only; omega, by simp only; omega, hcl, g1, g2⟩ (by simp only; omega)
   · have hj' : j = l.length := by simp at h2; omega
     subst hj'
     rw [List.take_length] at hct
     rw [← hcl] at hij
     have hil : i ≤ c.length := by omega
     refine cw_exit (post_then_x (post_then_x (post_blk_eq (post_then (zr (zm rfl (zm rfl ?_)))))))
     refine zS rfl (q_sliceL rfl rfl rfl (rdO (by exact .head _)) (by intro hc; omega)) ?_
     refine sw_effn rfl rfl (e_clear (α := XL) (zero := default) (k := i) (l := c) (i := 0) rfl (.k rfl (.nil)) rfl rfl rfl hil) (nP (zr (zm rfl (zm rfl ?_))))
     refine zS rfl (q_sliceH rfl rfl rfl (rdO (by exact .head _)) (by intro hc; (simp only [List.length_set, List.length_append, List.length_cons, List.length_nil, List.length_replicate, List.length_take, List.length_drop, List.length_map]; omega))) ?_
     refine za rfl (nP (cw_ret (post_ret1 rfl (resOk_tmp rfl) ?_)))
     refine fun w' hw => ⟨s.sub 3 0 i, rfl, trivial, ?_⟩
     have h5 := own_shrink (k := i) (by rw [List.length_append, List.length_take]; omega) hw
     rw [List.take_append_of_le_length (by rw [List.length_take]; omega), List.take_take, Nat.min_self, hct] at h5
     exact h5
theorem cloneX_spec (s : SlV) (l : List XL) (hlen : l.length ≤ 1000000) (w : World) (hs : Stb w [] (RdL s.v l)) : Calls Tryz.prog 153 #[s.v] w fun e w' => ∃ r : SlV, e = .returned r.v ∧ (l = [] → r.len = 0) ∧ Cl w [] [ownL 179 r.v l] w' := by
 have hL := rd_len hs.here
 refine calls_cw (vs := [_]) Tryz.func153 rfl Tryz.ntmps153 rfl (Cl.start0 w) (zr (za rfl (nP (cw_seq (cw_seq (cw_region (zm rfl (zS rfl (q_eqlNil rfl rfl) (sw_nil (post_then ?_))))))))))
 refine cw_cond rfl (fun h => ?_) (fun h => ?_)
 · have h1 : l = [] := rd_nil hs.here (by simpa using h)
   refine zr (za rfl (nP (cw_ret (post_then_r (post_ret1 rfl (resOk_tmp rfl) ?_)))))
   exact fun w' hw => ⟨⟨none, 0, 0⟩, rfl, fun _ => rfl, by rw [h1]; exact Cl.addNil 179 hw⟩
 · refine sP (zr ?_)
   refine sw_x rfl rfl rfl (e_buildL (α := XL) (l := []) rfl (.nil) rfl rfl rfl rfl) (fun s5 => ?_)
   refine zm rfl ?_
   refine sw_x rfl rfl rfl (e_append (i := 0) rfl (.k rfl (.k rfl (.nil))) rfl rfl (stA (by assumption)) (by first | omega | (simp only [List.length_set, List.length_append, List.length_cons, List.length_nil, List.length_replicate, List.length_take, List.length_drop, List.length_map]; omega)) rfl) (fun s7 => ?_)
   refine za rfl (nP (cw_ret (post_ret1 rfl (resOk_tmp rfl) ?_)))
   refine fun w' hw => ⟨s7, rfl, fun h1 => ?_, (Cl.sel (by exact .take 0 rfl (.nil _))) _ hw⟩
   have := rd_own (e := 179) hw (.head _)
   have := this.len
   simp [h1] at this; omega
end Go.Proofs.YtkmbliojafefdaaGreatDoor

set_option autoImplicit false
set_option maxRecDepth 100000
namespace Go.Proofs.YtkmbliojafefdaaGreatDoor
open Go.Sx
open Enc (enc val)
def listF (o : Lrn) : Nat → List XL → List (List Cond × List ByteArray) → List XL × List (List Cond × List ByteArray)
 | 0, lf, out => (lf, out)
 | n + 1, lf, out => if 0 < lf.length ∧ (out.length : Int) < o.most then
     if (mostC lf).m = lf.length then (lf, out) else
     match bestC lf o.reach o.least with
     | none => (lf, out)
     | some u => listF o n (lf.filter fun e => !holdsC e.wl e.at_ u.t.list) (out ++ [(u.t.list, u.pl)])
   else (lf, out)
def lastC (l : List XL) (y : List XL × List (List Cond × List ByteArray)) : List (List Cond × List ByteArray) := y.2 ++ [([], (mostC (if y.1.length = 0 then l else y.1)).b)]
def listC (l : List XL) (o : Lrn) : List (List Cond × List ByteArray) := lastC l (listF o (l.length + 1) l [])
theorem most_in (l : List XL) : (mostC l).b = [] ∨ ∃ e ∈ l, (mostC l).b = e.pl := by
 have key : ∀ (q : List XL) (s : MS), (∀ x ∈ q, x ∈ l) → (s.b = [] ∨ ∃ e ∈ l, s.b = e.pl) → (q.foldl (mostStep l) s).b = [] ∨ ∃ e ∈ l, (q.foldl (mostStep l) s).b = e.pl := by
   intro q
   induction q with
   | nil => intro s _ h; exact h
   | cons x q ih =>
     intro s hq h
     rw [List.foldl_cons]
     refine ih _ (fun y hy => hq y (.tail _ hy)) ?_
     unfold mostStep
     split
     · exact .inr ⟨x, hq x (.head _), rfl⟩
     · exact h
 exact key l _ (fun _ h => h) (.inl rfl)
theorem most_small {l : List XL} (h : ∀ e ∈ l, ExOk e) : (mostC l).b.length ≤ 1000 := by
 rcases most_in l with e | ⟨e, he, h2⟩
 · rw [e]; simp
 · rw [h2]; exact (h e he).small
theorem most_rdL {l : List XL} {w : World} (h : ∀ e ∈ l, ExIn e w) : RdL (mostC l).s.v (mostC l).b w := by
 have := most_rd h (Nat.le_refl l.length)
 rw [List.take_length] at this
 exact this
theorem best_is {l : List XL} {r least : Int} {u : Tly} (h : bestC l r least = some u) : IsT l r least u := by
 unfold bestC at h
 split at h
 · cases h
 · rename_i h1
   have h2 := minBy_mem betC (l := tallies l r least) (List.length_pos_iff.2 h1)
   rw [Option.some.inj h] at h2
   exact mem_tallies.1 h2
structure LrnOk (o : Lrn) : Prop where
 reach : 1 ≤ o.reach ∧ o.reach ≤ 3
 least : 1 ≤ o.least ∧ o.least ≤ 1000
 most : 1 ≤ o.most ∧ o.most ≤ 500
theorem best_left {l : List XL} {o : Lrn} {u : Tly} (ho : LrnOk o) (h : bestC l o.reach o.least = some u) : (l.filter fun e => !holdsC e.wl e.at_ u.t.list).length < l.length := by
 obtain ⟨e, he, t, ht, rfl, _⟩ := best_is h
 have h1 := (cands_ok ho.reach.1 ht).holds
 rcases Nat.lt_or_ge (l.filter fun e => !holdsC e.wl e.at_ (tlyOf l o.reach t).t.list).length l.length with h2 | h2
 · exact h2
 · exfalso
   have h3 : (l.filter fun e => !holdsC e.wl e.at_ (tlyOf l o.reach t).t.list) = l := List.Sublist.eq_of_length_le List.filter_sublist h2
   rw [List.filter_eq_self] at h3
   have := h3 e he
   have h4 : (tlyOf l o.reach t).t = t := rfl
   rw [h4, h1] at this; simp at this
theorem cl_true {w0 w : World} {fp : List Nat} {H : List Asn} {R : World → Prop} (hR : ∀ w, R w) (h : Cl w0 fp H w) : Cl w0 fp (Sx.frz R :: H) w := Cl.frz (H := []) h fun w _ _ => hR w
theorem list119_spec (sv : SlV) (l : List XL) (o : Lrn) (ho : LrnOk o) (hl : l.length ≤ 1000000) (hok : ∀ e ∈ l, ExOk e) (w : World) (hs : Stb w [] (RdL sv.v l)) (hin : Stb w [] fun w' => ∀ u ∈ l, ExIn u w') :
   Calls Tryz.prog 119 #[sv.v, val o] w fun e w' => ∃ y : SlV × List Chc, e = .returned y.1.v ∧ (y.2.map fun u => (u.tl, u.pl)) = listC l o ∧ Cl w [] [Sx.frz fun w => RdL y.1.v y.2 w ∧ ∀ u ∈ y.2, ChcIn u w] w' := by
 have hL := rd_len hs.here
 have hmo := ho.most
 refine calls_cw (vs := [_, _]) Tryz.func119 rfl Tryz.ntmps119 rfl (Cl.start0 w) (zr ?_)
 refine sw_x rfl rfl rfl (e_box rfl rfl rfl) (fun b3 => ?_)
 refine za rfl (nP (zr (za rfl (sw_nil (post_then (cw_seq (cw_region (zm rfl (za rfl (sw_nil (post_then (cw_seq ?_))))))))))))
 refine cw_cut (S := SlV × List XL × List Asn × SlV × List Chc) (fun y => [(0, [], sv.v), (3, [], .pointer (some ⟨b3, 0, none⟩)), (5, [], y.2.2.2.1.v), (6, [], y.1.v)]) (fun y => Cl w [] (ownL 64 y.2.2.2.1.v y.2.2.2.2 :: Sx.frz (fun w => ∀ u ∈ y.2.2.2.2, ChcIn u w) :: blk b3 (enc o) 40 :: y.2.2.1)) (fun y => (∀ (H : List Asn) w', Cl w [] H w' → (∀ A ∈ y.2.2.1, A ∈ H) → Stb w' [] (RdL y.1.v y.2.1)) ∧ (∀ e ∈ y.2.1, e ∈ l) ∧ y.2.1.length ≤ l.length ∧ (y.2.2.2.2.length : Int) ≤ o.most ∧ lastC l (y.2.1, y.2.2.2.2.map fun u => (u.tl, u.pl)) = listC l o) ?_ ?_
 · refine cw_block ?_
   refine cw_loop (S := Nat × SlV × List XL × List Asn × SlV × List Chc) (fun y => [(0, [], sv.v), (3, [], .pointer (some ⟨b3, 0, none⟩)), (5, [], y.2.2.2.2.1.v), (6, [], y.2.1.v)]) (fun y => Cl w [] (ownL 64 y.2.2.2.2.1.v y.2.2.2.2.2 :: Sx.frz (fun w => ∀ u ∈ y.2.2.2.2.2, ChcIn u w) :: blk b3 (enc o) 40 :: y.2.2.2.1)) (fun y => (∀ (H : List Asn) w', Cl w [] H w' → (∀ A ∈ y.2.2.2.1, A ∈ H) → Stb w' [] (RdL y.2.1.v y.2.2.1)) ∧ (∀ e ∈ y.2.2.1, e ∈ l) ∧ y.2.2.1.length ≤ l.length ∧ y.2.2.1.length < y.1 ∧ (y.2.2.2.2.2.length : Int) ≤ o.most ∧ lastC l (listF o y.1 y.2.2.1 (y.2.2.2.2.2.map fun u => (u.tl, u.pl))) = listC l o) (fun y => y.1) (l.length + 1, sv, l, [], ⟨none, 0, 0⟩, []) ⟨fun H w' h _ => stb_arg h hs, fun e h => h, Nat.le_refl _, by simp, by simp; omega, rfl⟩ (by exact .cons rfl (.cons rfl (.cons rfl (.cons rfl .nil)))) (fun w' h => Cl.addNil 64 (cl_true (fun w => by simp) h)) ?_
   rintro ⟨n, sl, lf, G, so, out⟩ ⟨hG, hsub, hll, hln, hol, hF⟩
   dsimp only at hG hsub hll hln hol hF ⊢
   have hmem : ∀ (A B D : Asn), ∀ X ∈ G, X ∈ A :: B :: D :: G := fun A B D X hX => .tail _ (.tail _ (.tail _ hX))
   have hexo : ∀ e ∈ lf, ExOk e := fun e he => hok e (hsub e he)
   have hexi : Stb w [] fun w' => ∀ u ∈ lf, ExIn u w' := stb_map hin fun _ h u hu => h u (hsub u hu)
   obtain ⟨n, rfl⟩ : ∃ k, n = k + 1 := ⟨n - 1, by omega⟩
   refine cw_seq (zr (zm rfl (zS rfl (q_len (xs := lf) rfl (.k rfl (.nil)) (fun w1 h1 => (hG _ w1 h1 (hmem _ _ _)).here)) (zS rfl (q_gtr rfl rfl rfl) (zm rfl (zm rfl ?_))))))
   refine zS rfl (q_len rfl (.k rfl (.nil)) (rdO (by exact .head _))) ?_
   refine zS rfl (q_fieldAddr rfl rfl) ?_
   refine zS rfl (q_loadC rfl rfl (by exact .tail _ (.tail _ (.head _))) rfl) ?_
   refine zS rfl (q_lss rfl rfl rfl) (zS rfl (q_and2 rfl rfl rfl) (nP ?_))
   refine cw_cond rfl (fun h => ?_) (fun h => ?_)
   · have hc : 0 < lf.length ∧ (out.length : Int) < o.most := by simp at h; omega
     have hF2 := hF
     unfold listF at hF2
     rw [List.length_map, if_pos hc] at hF2
     refine sP (cw_block (cw_seq (zr (zm rfl ?_))))
     refine sw_step rfl rfl rfl (q_call (CanCall.mk Tryz.call149) rfl (.k rfl (.nil)) (fun _ w1 hw => callq hw (most_spec _ lf (by omega) hexo w1 (hG _ w1 hw (hmem _ _ _)) (stb_arg hw hexi)))) ?_
     refine zm rfl (zS rfl (q_extract rfl rfl rfl) (zS rfl (q_extract rfl rfl rfl) (za rfl (za rfl (nP (zr (zm rfl (zm rfl (zS rfl (q_len (xs := lf) rfl (.k rfl (.nil)) (fun w1 h1 => (hG _ w1 h1 (hmem _ _ _)).here)) (zS rfl (q_eql rfl rfl rfl) (sw_nil (post_then ?_))))))))))))
     refine cw_cond rfl (fun h2 => ?_) (fun h2 => ?_)
     · rw [if_pos (by simpa using h2)] at hF2
       refine cw_exit (post_then_x (post_blk_ne rfl (post_then_x (post_blk_eq ?_))))
       exact post_meet (sl, lf, G, so, out) (by exact .cons rfl (.cons rfl (.cons rfl (.cons rfl .nil)))) (fun w' h => h) ⟨hG, hsub, hll, hol, hF2⟩
     · rw [if_neg (by simpa using h2)] at hF2
       refine sP (zr (zm rfl ?_))
       refine zS rfl (q_loadA rfl rfl (by exact .tail _ (.tail _ (.head _))) rfl) ?_
       refine sw_step rfl rfl rfl (q_call (CanCall.mk Tryz.call150) rfl (.k rfl (.k rfl (.nil))) (fun _ w1 hw => callq hw (best_spec _ lf o ho.reach ho.least.1 (by omega) hexo w1 (hG _ w1 hw (hmem _ _ _)) (stb_arg hw hexi)))) ?_
       obtain ⟨bo, hbo⟩ : ∃ bo, bestC lf o.reach o.least = bo := ⟨_, rfl⟩
       rw [hbo]
       rw [hbo] at hF2
       refine zm rfl (zS rfl (q_extract rfl rfl rfl) (zS rfl (q_extract rfl rfl rfl) ?_))
       refine sw_x rfl rfl rfl (e_alloc rfl) (fun b9 => ?_)
       refine sw_eff0 rfl rfl (e_store (i := 0) rfl rfl rfl rfl rfl rfl rfl rfl) (za rfl (nP (cw_seq (zr (zm rfl (zS rfl (q_not rfl rfl) (sw_nil (post_then ?_))))))))
       refine cw_cond rfl (fun h3 => ?_) (fun h3 => ?_)
       · have h4 : bo = none := by cases bo with
           | none => rfl
           | some => simp at h3
         subst h4
         refine cw_exit (post_then_x (post_blk_ne rfl (post_then_x (post_blk_eq ?_))))
         exact post_meet (sl, lf, G, so, out) (by exact .cons rfl (.cons rfl (.cons rfl (.cons rfl .nil)))) (fun w' h => h.tail) ⟨hG, hsub, hll, hol, hF2⟩
       · obtain ⟨u, rfl⟩ : ∃ u, bo = some u := by cases bo with
           | none => simp at h3
           | some u => exact ⟨u, rfl⟩
         have hdec := best_left ho hbo
         have hub := isT_bd ho.reach (by omega) (best_is hbo)
         have hul : u.pl.length ≤ 1000 := by
           obtain ⟨e, he, t, ht, rfl, _⟩ := best_is hbo
           exact most_small (l := heldC lf o.reach t) fun q hq => hexo q (List.mem_filter.1 hq).1
         have hup : Stb w [] (RdL u.p.v u.pl) := by
           obtain ⟨e, he, t, ht, rfl, _⟩ := best_is hbo
           exact stb_map hexi fun _ h => most_rdL (l := heldC lf o.reach t) fun q hq => h q (List.mem_filter.1 hq).1
         have hat : ∀ e ∈ lf, 0 ≤ e.at_ ∧ e.at_ ≤ 1000 := fun e he => (hexo e he).at0
         dsimp only [Option.getD_some]
         refine sP (cw_seq (cw_region_a (Cl w [] [blk b9 (enc u) 213]) [] mixed_Tryz ?_))
         refine zp 0 rfl (q_move rfl rfl) ?_
         refine zk 1 (Cl.sel (by exact .take 0 rfl (.nil _))) rfl (q_fieldAddr rfl rfl) ?_
         refine zk 2 (Cl.sel (by exact .take 0 rfl (.nil _))) rfl (q_loadA rfl rfl (by exact .head _) rfl) ?_
         refine zk 4 (Cl.sel (by exact .take 0 rfl (.nil _))) rfl (q_fieldAddr rfl rfl) ?_
         refine zk 5 (Cl.sel (by exact .take 0 rfl (.nil _))) rfl (q_loadC rfl rfl (by exact .head _) rfl) ?_
         refine aw_x 3 (by kernel_rfl) rfl rfl rfl rfl (e_call (CanCall.mk Tryz.call151) rfl (.k rfl (.nil)) (fun w1 hw => list_spec u.t w1)) (by intro hb; exact fun _ w h => (Cl.sel (by exact .take 1 rfl (.nil _))) w h.2) (fun s44 => ?_)
         refine aw_imp fun _ => ?_
         refine aw_x 6 (by kernel_rfl) rfl rfl rfl rfl (e_call (CanCall.mk Tryz.call87) rfl (.k rfl (.nil)) (fun w1 hw => cloneL_spec _ u.pl (by omega) w1 (stb_arg hw hup))) (by intro hb; exact fun _ w h => (Cl.sel (by exact .take 2 rfl (.nil _))) w h.2) (fun s47 => ?_)
         refine aw_imp fun _ => ?_
         refine zp 7 rfl (q_build rfl (.k rfl (.k rfl (.nil))) rfl) ?_
         refine aw_x 8 (by kernel_rfl) rfl rfl rfl rfl (e_buildL (α := Chc) (l := [⟨s44, s47, u.t.list, u.pl⟩]) rfl (.k rfl (.nil)) rfl rfl rfl rfl) (by intro hb; exact fun _ => (Cl.sel (by exact .take 3 rfl (.nil _)))) (fun s49 => ?_)
         refine aw_x 9 (by kernel_rfl) rfl rfl rfl rfl (e_append (i := 4) rfl (.k rfl (.k rfl (.nil))) rfl rfl (rdO (by exact .head _)) (by first | omega | (simp only [List.length_set, List.length_append, List.length_cons, List.length_nil, List.length_replicate, List.length_take, List.length_drop, List.length_map]; omega)) rfl) (by intro hb; exact fun _ => (Cl.sel (by exact .take 3 rfl (.nil _)))) (fun s50 => ?_)
         refine zp 10 rfl (q_assign rfl rfl) ?_
         refine aw_end (by kernel_rfl) ?_
         refine post_then (cw_region (zm rfl ?_))
         refine sw_x rfl rfl rfl (e_call (CanCall.mk Tryz.call153) rfl (.k rfl (.nil)) (fun w1 hw => cloneX_spec _ lf (by omega) w1 (hG _ w1 hw (fun X hX => List.mem_append_right [_, _, _, _, _, _, _] hX)))) (fun s52 => ?_)
         refine sw_imp fun _ => (zS rfl (q_func_l rfl (.k rfl (.nil))) ?_)
         refine sw_x rfl rfl rfl (e_callH (A := [ownL 179 s52.v lf]) (CanCall.mk Tryz.call152) rfl rfl (.k rfl (.k rfl (.nil))) (.refl _) (fun w1 bs h1 h2 h3 h4 h5 => delF_spec s52 lf 154 #[.pointer (some ⟨b9, 0, none⟩)] _ _ w1 bs h1 h2 h3 ⟨fun w2 k => ⟨(lend_blk h5 (by exact .tail _ (.tail _ (.tail _ (.head _))))).stb w2 k, (h4 _ (stb_map hexi fun _ h e he => (h e he).1)).stb w2 k⟩⟩ (CanCall.mk Tryz.call154) (heldBy_spec b9 u hub.1 lf hat))) (fun s54 => ?_)
         refine sw_imp fun _ => (za rfl (sw_nil (post_blk ?_)))
         obtain ⟨lf', hlf'⟩ : ∃ lf', (lf.filter fun e => !holdsC e.wl e.at_ u.t.list) = lf' := ⟨_, rfl⟩
         have hsub' : ∀ e ∈ lf', e ∈ lf := fun e he => by rw [← hlf'] at he; exact (List.mem_filter.1 he).1
         have hF3 : lastC l (listF o n (lf.filter fun e => !holdsC e.wl e.at_ u.t.list) ((out.map fun u => (u.tl, u.pl)) ++ [(u.t.list, u.pl)])) = listC l o := hF2
         rw [hlf'] at hF3 hdec ⊢
         refine post_next (n, s54, lf', [Sx.frz (RdL s54.v lf')], s50, out ++ [⟨s44, s47, u.t.list, u.pl⟩]) (by exact .cons rfl (.cons rfl (.cons rfl (.cons rfl .nil)))) (fun w' h => ?_) ⟨fun H w' h hm => stb_frz h (hm _ (.head _)), fun e he => hsub e (hsub' e he), by simp only; omega, by simp only; omega, by simp only [List.length_append, List.length_cons, List.length_nil]; omega, by simp only [List.map_append]; exact hF3⟩ (by simp only; omega)
         have h1 : Cl w [] ([ownL 109 s44.v u.t.list, ownL 9 s47.v u.pl, Sx.frz (fun w => ∀ u ∈ out, ChcIn u w)] ++ [ownL 64 s50.v (out ++ [⟨s44, s47, u.t.list, u.pl⟩]), blk b3 (enc o) 40, ownL 179 s54.v lf']) w' := (Cl.sel (by exact .take 3 rfl (.take 2 rfl (.take 4 rfl (.take 3 rfl (.take 3 rfl (.take 0 rfl (.nil _)))))))) _ h
         have h2 := Cl.frz (R := fun w => ∀ q ∈ out ++ [⟨s44, s47, u.t.list, u.pl⟩], ChcIn q w) h1 fun w bs ⟨b1, _, _, k1, b2, _, _, k2, b3, _, _, k3, _⟩ q hq => by
           rcases List.mem_append.1 hq with hq | hq
           · exact frz_here k3 q hq
           · simp at hq; subst hq; exact ⟨ownL.rd k1, ownL.rd k2⟩
         have h3 : Cl w [] (ownL 179 s54.v lf' :: [ownL 64 s50.v (out ++ [⟨s44, s47, u.t.list, u.pl⟩]), Sx.frz (fun w => ∀ q ∈ out ++ [⟨s44, s47, u.t.list, u.pl⟩], ChcIn q w), blk b3 (enc o) 40]) w' := (Cl.sel (by exact .take 3 rfl (.take 1 rfl (.take 0 rfl (.take 0 rfl (.nil _)))))) _ h2
         exact (Cl.sel (by exact .take 1 rfl (.take 1 rfl (.take 1 rfl (.take 0 rfl (.nil _)))))) _ h3.frzL
   · have hc : ¬ (0 < lf.length ∧ (out.length : Int) < o.most) := by
       simp at h; omega
     unfold listF at hF
     rw [List.length_map, if_neg hc] at hF
     refine cw_exit (post_then_x (post_then_x (post_blk_eq ?_)))
     exact post_meet (sl, lf, G, so, out) (by exact .cons rfl (.cons rfl (.cons rfl (.cons rfl .nil)))) (fun w' h => h) ⟨hG, hsub, hll, hol, hF⟩
 rintro ⟨sl, lf, G, so, out⟩ ⟨hG, hsub, hll, hol, hF⟩
 refine post_then ?_
 dsimp only at hG hsub hll hol hF ⊢
 have hmem : ∀ (A B D : Asn), ∀ X ∈ G, X ∈ A :: B :: D :: G := fun A B D X hX => .tail _ (.tail _ (.tail _ hX))
 refine cw_seq (zr (zm rfl (zS rfl (q_len (xs := lf) rfl (.k rfl (.nil)) (fun w1 h1 => (hG _ w1 h1 (hmem _ _ _)).here)) (zS rfl (q_eql rfl rfl rfl) (nP ?_)))))
 refine cw_cut (S := SlV × List XL) (fun y => [(5, [], so.v), (6, [], y.1.v)]) (fun y => Cl w [] (ownL 64 so.v out :: Sx.frz (fun w => ∀ u ∈ out, ChcIn u w) :: blk b3 (enc o) 40 :: G)) (fun y => (∀ (H : List Asn) w', Cl w [] H w' → (∀ A ∈ G, A ∈ H) → Stb w' [] (RdL y.1.v y.2)) ∧ y.2 = if lf.length = 0 then l else lf) ?_ ?_
 · refine cw_cond rfl (fun h => ?_) (fun h => ?_)
   · refine cw_region (zm rfl (za rfl (sw_nil ?_)))
     exact post_meet (sv, l) (by exact .cons rfl (.cons rfl .nil)) (fun w' h => h) ⟨fun H w' h _ => stb_arg h hs, by rw [if_pos (by simpa using h)]⟩
   · refine cw_skip ?_
     exact post_meet (sl, lf) (by exact .cons rfl (.cons rfl .nil)) (fun w' h => h) ⟨hG, by rw [if_neg (by simpa using h)]⟩
 rintro ⟨sl2, lf2⟩ ⟨hG2, hlf2⟩
 refine post_then ?_
 dsimp only at hG2 hlf2 ⊢
 have hsub2 : ∀ e ∈ lf2, e ∈ l := by
   rw [hlf2]; split
   · exact fun e h => h
   · exact hsub
 have hll2 : lf2.length ≤ 1000000 := by
   rw [hlf2]; split <;> omega
 have hexo : ∀ e ∈ lf2, ExOk e := fun e he => hok e (hsub2 e he)
 have hexi : Stb w [] fun w' => ∀ u ∈ lf2, ExIn u w' := stb_map hin fun _ h u hu => h u (hsub2 u hu)
 have hpl := most_small hexo
 have hpr : Stb w [] (RdL (mostC lf2).s.v (mostC lf2).b) := stb_map hexi fun _ h => most_rdL h
 have hF2 : (out.map fun u => (u.tl, u.pl)) ++ [([], (mostC lf2).b)] = listC l o := by rw [← hF, hlf2]; rfl
 refine zr (zm rfl ?_)
 refine sw_step rfl rfl rfl (q_call (CanCall.mk Tryz.call149) rfl (.k rfl (.nil)) (fun _ w1 hw => callq hw (most_spec _ lf2 (by omega) hexo w1 (hG2 _ w1 hw (hmem _ _ _)) (stb_arg hw hexi)))) ?_
 obtain ⟨ms, hms⟩ : ∃ ms, mostC lf2 = ms := ⟨_, rfl⟩
 rw [hms] at hpl hpr hF2 ⊢
 refine zm rfl (zS rfl (q_extract rfl rfl rfl) (zS rfl (q_extract rfl rfl rfl) (za rfl (za rfl (nP (zr (zm rfl (zm rfl ?_))))))))
 refine sw_x rfl rfl rfl (e_call (CanCall.mk Tryz.call87) rfl (.k rfl (.nil)) (fun w1 hw => cloneL_spec _ ms.b (by omega) w1 (stb_arg hw hpr))) (fun s66 => ?_)
 refine sw_imp fun _ => (zS rfl (q_build rfl (.k rfl (.nil)) rfl) ?_)
 refine sw_x rfl rfl rfl (e_buildL (α := Chc) (l := [⟨⟨none, 0, 0⟩, s66, [], ms.b⟩]) rfl (.k rfl (.nil)) rfl rfl rfl rfl) (fun s68 => ?_)
 refine sw_x rfl rfl rfl (e_append (i := 2) rfl (.k rfl (.k rfl (.nil))) rfl rfl (rdO (by exact .head _)) (by first | omega | (simp only [List.length_set, List.length_append, List.length_cons, List.length_nil, List.length_replicate, List.length_take, List.length_drop, List.length_map]; omega)) rfl) (fun s69 => ?_)
 refine za rfl (nP (cw_ret (post_ret1 rfl (resOk_tmp rfl) ?_)))
 refine fun w' h => ⟨(s69, out ++ [⟨⟨none, 0, 0⟩, s66, [], ms.b⟩]), rfl, by rw [← hF2]; simp, ?_⟩
 have h1 : Cl w [] ([ownL 64 s69.v (out ++ [⟨⟨none, 0, 0⟩, s66, [], ms.b⟩]), ownL 9 s66.v ms.b, Sx.frz (fun w => ∀ u ∈ out, ChcIn u w)] ++ []) w' := (Cl.sel (by exact .take 2 rfl (.take 1 rfl (.take 1 rfl (.nil _))))) _ h
 refine Cl.frz h1 fun w bs ⟨b1, _, _, k1, b2, _, _, k2, b3, _, _, k3, _⟩ => ⟨ownL.rd k1, fun u hu => ?_⟩
 rcases List.mem_append.1 hu with hu | hu
 · exact frz_here k3 u hu
 · simp at hu; subst hu; exact ⟨rd_nil0 w, ownL.rd k2⟩
end Go.Proofs.YtkmbliojafefdaaGreatDoor

set_option autoImplicit false
set_option maxRecDepth 100000
namespace Go.Proofs.YtkmbliojafefdaaGreatDoor
open Go.Sx
open Enc (enc val)
theorem cmpLessR_spec (x y : Int) (w : World) : Calls Tryz.prog 180 #[.int .i32 x, .int .i32 y] w fun e w' => e = .returned (.bool (decide (x < y))) ∧ Cl w [] [] w' := by
 refine calls_cw (vs := [_, _]) Tryz.func180 rfl Tryz.ntmps180 rfl (Cl.start0 w) (zr (za rfl (nP (cw_seq (cw_region (zm rfl (sw_step rfl rfl rfl (q_call (CanCall.mk Tryz.call121) rfl (.k rfl (.nil)) (fun _ w hw => callq hw (isNaNR_spec _ w))) (zm rfl (zm rfl (sw_step rfl rfl rfl (q_call (CanCall.mk Tryz.call121) rfl (.k rfl (.nil)) (fun _ w hw => callq hw (isNaNR_spec _ w))) (zS rfl (q_not rfl rfl) (zS rfl (q_and2 rfl rfl rfl) (zm rfl (zm rfl (zm rfl (zS rfl (q_lss rfl rfl rfl) (zS rfl (q_or2 rfl rfl rfl) (za rfl (sw_nil (post_then (cw_ret (post_ret1 rfl (resOk_tmp rfl) ?_))))))))))))))))))))))
 exact fun w' hw => ⟨by simp, hw⟩
def swp (l : List Rn) (i j : Nat) : List Rn := (l.set i (nth l j)).set j (nth l i)
theorem swp_nth {l : List Rn} {i j : Nat} (hi : i < l.length) (hj : j < l.length) (k : Nat) : nth (swp l i j) k = if k = j then nth l i else if k = i then nth l j else nth l k := by
 unfold swp
 rw [nth_setP _ _ _ _ (by simpa using hj), nth_setP _ _ _ _ hi]
theorem swp_perm {l : List Rn} {i j : Nat} (hi : i < l.length) (hj : j < l.length) : (swp l i j).Perm l := by
 unfold swp
 rw [nth_get hi, nth_get hj]
 exact List.set_set_perm hi hj
def SrtBut (l : List Rn) (a b j : Nat) : Prop := ∀ p q, a ≤ p → p < q → q < b → q ≠ j → (nth l p).v ≤ (nth l q).v
def Srt (l : List Rn) (a b : Nat) : Prop := ∀ p q, a ≤ p → p < q → q < b → (nth l p).v ≤ (nth l q).v
structure Mix (l l' : List Rn) (a b : Nat) : Prop where
 perm : l'.Perm l
 out : ∀ k, k < a ∨ b ≤ k → nth l' k = nth l k
theorem Mix.refl (l : List Rn) (a b : Nat) : Mix l l a b := ⟨.refl _, fun _ _ => rfl⟩
theorem Mix.len {l l' : List Rn} {a b : Nat} (h : Mix l l' a b) : l'.length = l.length := h.perm.length_eq
theorem Mix.swp {l l' : List Rn} {a b i j : Nat} (h : Mix l l' a b) (hi : a ≤ i ∧ i < b) (hj : a ≤ j ∧ j < b) (hb : b ≤ l.length) : Mix l (swp l' i j) a b := by
 have hl := h.len
 refine ⟨(swp_perm (by omega) (by omega)).trans h.perm, fun k hk => ?_⟩
 rw [swp_nth (by omega) (by omega), if_neg (by omega), if_neg (by omega)]
 exact h.out k hk
theorem Mix.wider {l l' : List Rn} {a b c d : Nat} (h : Mix l l' a b) (h1 : c ≤ a) (h2 : b ≤ d) : Mix l l' c d := ⟨h.perm, fun k hk => h.out k (by omega)⟩
theorem Mix.trans {l l' l'' : List Rn} {a b : Nat} (h : Mix l l' a b) (k : Mix l' l'' a b) : Mix l l'' a b := ⟨k.perm.trans h.perm, fun i hi => (k.out i hi).trans (h.out i hi)⟩
theorem srtBut_swp {l : List Rn} {a b j : Nat} (h : SrtBut l a b j) (ha : a < j) (hj : j < b) (hb : b ≤ l.length) (hlt : (nth l j).v < (nth l (j - 1)).v) : SrtBut (swp l j (j - 1)) a b (j - 1) := by
 intro p q hp hpq hq hne
 rw [swp_nth (by omega) (by omega), swp_nth (by omega) (by omega), if_neg hne]
 by_cases h1 : q = j
 · rw [if_pos h1]
   by_cases h2 : p = j - 1
   · rw [if_pos h2]; omega
   · rw [if_neg h2, if_neg (by omega)]
     exact h p (j - 1) hp (by omega) (by omega) (by omega)
 · rw [if_neg h1]
   by_cases h2 : p = j - 1
   · rw [if_pos h2]; exact h j q (by omega) (by omega) hq h1
   · rw [if_neg h2]
     by_cases h3 : p = j
     · rw [if_pos h3]; exact h (j - 1) q (by omega) (by omega) hq h1
     · rw [if_neg h3]; exact h p q hp hpq hq h1
theorem srt_of_but {l : List Rn} {a b j : Nat} (h : SrtBut l a b j) (hj : j ≤ a ∨ (nth l (j - 1)).v ≤ (nth l j).v) : Srt l a b := by
 intro p q hp hpq hq
 by_cases h1 : q = j
 · subst h1
   rcases hj with hj | hj
   · omega
   · by_cases h2 : p = q - 1
     · rw [h2]; exact hj
     · exact Int.le_trans (h p (q - 1) hp (by omega) (by omega) (by omega)) hj
 · exact h p q hp hpq hq h1
theorem insertion_spec (sv : SlV) (l : List Rn) (a b : Nat) (hab : a ≤ b) (hb : b ≤ l.length) (hl : l.length ≤ 4611686018427387904) (w : World) (bs : List Nat) (hs : Sep [ownL 21 sv.v l] w bs) (hn : bs.Nodup) (hlt : ∀ b ∈ bs, b < w.heap.size) :
   Calls Tryz.prog 174 #[sv.v, .int .i64 a, .int .i64 b] w fun e w' => ∃ l' : List Rn, e = .returned (.tuple #[]) ∧ (Mix l l' a b ∧ Srt l' a b) ∧ Cl w bs [ownL 21 sv.v l'] w' := by
 refine calls_cw (vs := [_, _, _]) Tryz.func174 rfl Tryz.ntmps174 rfl (Cl.start hs hn hlt) (zr (zm rfl ?_))
 refine zS rfl (q_add rfl rfl rfl (by intro hc; omega)) ?_
 refine za rfl (nP (cw_block ?_))
 refine cw_loop (S := Nat × List Rn) (fun y => [(0, [], sv.v), (1, [], .int .i64 a), (2, [], .int .i64 b), (6, [], .int .i64 y.1)]) (fun y => Cl w bs [ownL 21 sv.v y.2]) (fun y => a + 1 ≤ y.1 ∧ (y.1 ≤ b ∨ y.1 = a + 1) ∧ Mix l y.2 a b ∧ Srt y.2 a y.1) (fun y => b + 1 - y.1) (a + 1, l) ⟨by omega, .inr rfl, .refl _ _ _, fun p q h1 h2 h3 => by simp only at h3; omega⟩ (by exact .cons rfl (.cons rfl (.cons rfl (.cons rfl .nil)))) (fun _ h => h) ?_
 rintro ⟨i, m⟩ ⟨hi1, hi2, hm, hsr⟩
 dsimp only at hi1 hi2 hm hsr ⊢
 have hml := hm.len
 refine cw_seq (zr (zm rfl (zm rfl (zS rfl (q_lss rfl rfl rfl) (nP ?_)))))
 refine cw_cond rfl (fun h => ?_) (fun h => ?_)
 · have hib : i < b := by simp at h; omega
   refine sP (cw_seq (cw_block (zr (zm rfl (za rfl (nP (cw_block ?_)))))))
   refine cw_loop (S := Nat × List Rn) (fun y => [(0, [], sv.v), (1, [], .int .i64 a), (2, [], .int .i64 b), (6, [], .int .i64 i), (7, [], .int .i64 y.1)]) (fun y => Cl w bs [ownL 21 sv.v y.2]) (fun y => a ≤ y.1 ∧ y.1 ≤ i ∧ Mix l y.2 a b ∧ SrtBut y.2 a (i + 1) y.1) (fun y => y.1) (i, m) ⟨by simp only; omega, by simp, hm, fun p q h1 h2 h3 h4 => hsr p q h1 h2 (by simp only at h4; omega)⟩ (by exact .cons rfl (.cons rfl (.cons rfl (.cons rfl (.cons rfl .nil))))) (fun _ h => h) ?_
   rintro ⟨j, u⟩ ⟨hj1, hj2, hu, hsu⟩
   dsimp only at hj1 hj2 hu hsu ⊢
   have hul := hu.len
   refine cw_seq (cw_seq ?_)
   refine cw_region_q mixed_Tryz (by kernel_rfl) ?_
   refine zw rfl (zw rfl (zq rfl (q_gtr rfl rfl rfl) (zw rfl (zw rfl (zw rfl ?_)))))
   refine zq rfl (q_indexN rfl rfl rfl (rdO (by exact .head _)) (by intro hc; omega)) ?_
   refine zq rfl (q_loadF rfl rfl rfl (rdO (by exact .head _)) (by intro hc; omega) rfl) ?_
   refine zw rfl (zw rfl ?_)
   refine zq rfl (q_sub rfl rfl rfl (by intro hc; omega)) ?_
   refine zq rfl (q_index rfl rfl rfl (rdO (by exact .head _)) (by intro hc; (simp only [AllT.iff, List.all_cons, List.all_nil, id, Bool.and_eq_true, Bool.not_eq_true', decide_eq_true_eq, decide_eq_false_iff_not, and_true] at hc; omega))) ?_
   refine zq rfl (q_loadF rfl rfl rfl (rdO (by exact .head _)) (by intro hc; omega) rfl) ?_
   refine qw_step rfl rfl rfl (q_call (CanCall.mk Tryz.call180) rfl (.k rfl (.k rfl (.nil))) (fun _ w hw => callq hw (cmpLessR_spec _ _ w))) (zq rfl (q_and2 rfl rfl rfl) (qw_end (post_then ?_)))
   refine cw_cond rfl (fun h2 => ?_) (fun h2 => ?_)
   · have h3 : a < j ∧ (nth u j).v < (nth u (j - 1)).v := by
       simp only [Bool.and_eq_true, decide_eq_true_eq] at h2
       have e : ((j : Int) - 1).toNat = j - 1 := by omega
       rw [e] at h2
       omega
     have e : ((j : Int) - 1).toNat = j - 1 := by omega
     refine sP (cw_seq (cw_block (cw_region_a (Cl w bs [ownL 21 sv.v u]) [15, 16, 17] mixed_Tryz ?_)))
     refine zp 0 rfl (q_move rfl rfl) ?_
     refine zp 1 rfl (q_move rfl rfl) ?_
     refine zp 2 rfl (q_move rfl rfl) ?_
     refine zp 3 rfl (q_move rfl rfl) ?_
     refine zp 4 rfl (q_sub rfl rfl rfl (by intro hc; omega)) ?_
     refine zp 5 rfl (q_move rfl rfl) ?_
     refine zp 6 rfl (q_move rfl rfl) ?_
     refine zp 7 rfl (q_sub rfl rfl rfl (by intro hc; omega)) ?_
     refine zk 8 (Cl.sel (by exact .take 0 rfl (.nil _))) rfl (q_index rfl rfl rfl (rdO (by exact .head _)) (by intro hc; omega)) ?_
     refine zk 9 (Cl.sel (by exact .take 0 rfl (.nil _))) rfl (q_loadF rfl rfl rfl (rdO (by exact .head _)) (by intro hc; omega) rfl) ?_
     refine zp 10 rfl (q_move rfl rfl) ?_
     refine zp 11 rfl (q_move rfl rfl) ?_
     refine zk 12 (Cl.sel (by exact .take 0 rfl (.nil _))) rfl (q_indexN rfl rfl rfl (rdO (by exact .head _)) (by intro hc; omega)) ?_
     refine zk 13 (Cl.sel (by exact .take 0 rfl (.nil _))) rfl (q_loadF rfl rfl rfl (rdO (by exact .head _)) (by intro hc; omega) rfl) ?_
     refine zk 14 (Cl.sel (by exact .take 0 rfl (.nil _))) rfl (q_indexN rfl rfl rfl (rdO (by exact .head _)) (by intro hc; omega)) ?_
     refine aw_one0 15 (by kernel_rfl) rfl rfl rfl (e_storeEl1 (i := 0) rfl rfl rfl rfl rfl (by omega)) (by intro hb; (exact absurd hb (by decide))) ?_
     refine aw_q 16 (by kernel_rfl) rfl rfl rfl rfl (OpR.q (q_index rfl rfl rfl (rdO (by exact .head _)) (by intro hc; (simp only [List.length_set, List.length_append, List.length_cons, List.length_nil, List.length_replicate, List.length_take, List.length_drop, List.length_map]; omega)))) (by intro hb; (exact absurd hb (by decide))) ?_
     refine aw_one0 17 (by kernel_rfl) rfl rfl rfl (e_storeEl1 (i := 0) rfl rfl rfl rfl rfl (by (simp only [List.length_set, List.length_append, List.length_cons, List.length_nil, List.length_replicate, List.length_take, List.length_drop, List.length_map]; omega))) (by intro hb; (exact absurd hb (by decide))) ?_
     refine aw_end (by kernel_rfl) ?_
     refine post_blk (post_then (cw_region (zm rfl ?_)))
     refine zS rfl (q_sub rfl rfl rfl (by intro hc; omega)) ?_
     refine za rfl (sw_nil ?_)
     have e2 : (u.set j (nth u ((j : Int) - 1).toNat)).set ((j : Int) - 1).toNat (nth u j) = swp u j (j - 1) := by rw [e]; rfl
     refine post_next (j - 1, swp u j (j - 1)) (by exact .cons rfl (.cons rfl (.cons rfl (.cons rfl (.cons' rfl (by congr 1; first | omega | (simp only; omega)) .nil))))) (fun w3 hw3 => ?_) ⟨by simp only; omega, by simp only; omega, hu.swp (by omega) (by omega) hb, srtBut_swp hsu (by omega) (by omega) (by omega) h3.2⟩ (by simp only; omega)
     rw [← e2]
     exact hw3
   · have h3 : j ≤ a ∨ (nth u (j - 1)).v ≤ (nth u j).v := by
       by_cases h4 : a < j
       · right
         have e : ((j : Int) - 1).toNat = j - 1 := by omega
         rw [e] at h2
         simp at h2
         exact h2 (by omega)
       · left; omega
     refine cw_exit (post_then_x (post_then_x (post_blk_eq (post_blk (post_then (cw_region (zm rfl ?_)))))))
     refine zS rfl (q_add rfl rfl rfl (by intro hc; omega)) ?_
     refine za rfl (sw_nil ?_)
     exact post_next (i + 1, u) (by exact .cons rfl (.cons rfl (.cons rfl (.cons rfl .nil)))) (fun _ h => h) ⟨by simp only; omega, by simp only; omega, hu, srt_of_but hsu h3⟩ (by simp only; omega)
 · have hib : i = b ∨ i = a + 1 ∧ b = a := by simp at h; omega
   refine cw_exit (post_then_x (post_then_x (post_blk_eq (post_end0 rfl ?_))))
   exact fun w' hw => ⟨m, rfl, ⟨hm, fun p q h1 h2 h3 => hsr p q h1 h2 (by omega)⟩, hw⟩
theorem len64_spec (x : Int) (hx : 0 ≤ x ∧ x < 256) (w : World) : Calls Tryz.prog 184 #[.int .u64 x] w fun e w' => ∃ l : Int, e = .returned (.int .i64 l) ∧ True ∧ Cl w [] [] w' := by
 refine calls_cw (vs := [_]) Tryz.func184 rfl Tryz.ntmps184 rfl (Cl.start0 w) (zr (za rfl (nP (cw_seq (cw_seq (cw_region (zm rfl (zS rfl (q_geq rfl rfl rfl) (sw_nil (post_then ?_))))))))))
 refine cw_cond rfl (fun h1 => ?_) (fun h1 => ?_)
 · simp at h1; omega
 · refine sP (cw_seq (zr (zm rfl (zS rfl (q_geq rfl rfl rfl) (nP ?_)))))
   refine cw_cond rfl (fun h2 => ?_) (fun h2 => ?_)
   · simp at h2; omega
   · refine sP (cw_seq (zr (zm rfl (zS rfl (q_geq rfl rfl rfl) (nP ?_)))))
     refine cw_cond rfl (fun h3 => ?_) (fun h3 => ?_)
     · simp at h3; omega
     · refine sP (zr (zm rfl (zm rfl (zS rfl (q_conv rfl rfl) ?_))))
       have hw : IntKind.u8.wrap x = x := by simp only [IntKind.wrap, IntKind.signed, IntKind.bits]; simp; omega
       refine zS rfl (q_indexS rfl rfl rfl Tryz.underlying9 (fun _ => ⟨by rw [hw]; omega, by rw [hw]; exact Int.lt_of_lt_of_le hx.2 (by decide)⟩)) ?_
       refine zS rfl (q_conv rfl rfl) (zS rfl (q_add_w rfl rfl rfl) (za rfl (nP (cw_ret (post_ret1 rfl (resOk_tmp rfl) ?_)))))
       exact fun w' hw => ⟨_, rfl, trivial, hw⟩
theorem len_spec (x : Int) (hx : 0 ≤ x ∧ x < 256) (w : World) : Calls Tryz.prog 148 #[.int .u64 x] w fun e w' => ∃ l : Int, e = .returned (.int .i64 l) ∧ True ∧ Cl w [] [] w' := by
 refine calls_cw (vs := [_]) Tryz.func148 rfl Tryz.ntmps148 rfl (Cl.start0 w) (zr (za rfl (nP (cw_seq ?_))))
 refine cw_cond rfl (fun h1 => ?_) (fun h1 => ?_)
 · cases h1
 · refine sP (zr (zm rfl ?_))
   refine sw_x rfl rfl rfl (e_call (CanCall.mk Tryz.call184) rfl (.k rfl (.nil)) (fun w hw => len64_spec x hx w)) (fun l7 => ?_)
   refine sw_imp fun _ => (za rfl (nP (cw_ret (post_ret1 rfl (resOk_tmp rfl) ?_))))
   exact fun w' hw => ⟨l7, rfl, trivial, hw⟩
theorem pdq12_spec (sv : SlV) (l : List Rn) (lim : Int) (hb : l.length ≤ 12) (w : World) (bs : List Nat) (hs : Sep [ownL 21 sv.v l] w bs) (hn : bs.Nodup) (hlt : ∀ b ∈ bs, b < w.heap.size) :
   Calls Tryz.prog 147 #[sv.v, .int .i64 0, .int .i64 l.length, .int .i64 lim] w fun e w' => ∃ l' : List Rn, e = .returned (.tuple #[]) ∧ (Mix l l' 0 l.length ∧ Srt l' 0 l.length) ∧ Cl w bs [ownL 21 sv.v l'] w' := by
 refine calls_cw (vs := [_, _, _, _]) Tryz.func147 rfl Tryz.ntmps147 rfl (Cl.start hs hn hlt) (zr (za rfl (nP (cw_seq (cw_region (za rfl (sw_nil (post_then (cw_block ?_)))))))))
 refine cw_loop (S := Unit) (fun _ => [(0, [], sv.v), (1, [], .int .i64 0), (2, [], .int .i64 l.length), (3, [], .int .i64 lim)]) (fun _ => Cl w bs [ownL 21 sv.v l]) (fun _ => True) (fun _ => 0) () trivial (by exact .cons rfl (.cons rfl (.cons rfl (.cons rfl .nil)))) (fun _ h => h) ?_
 rintro ⟨⟩ _
 refine cw_block (zr (zm rfl (zm rfl ?_)))
 refine zS rfl (q_sub rfl rfl rfl (by intro hc; omega)) ?_
 refine za rfl (nP (cw_seq (zr (zm rfl (zS rfl (q_leq rfl rfl rfl) (sw_nil (post_then ?_)))))))
 refine cw_cond rfl (fun h => ?_) (fun h => ?_)
 · refine zr (zm rfl (zm rfl (zm rfl ?_)))
   refine sw_x rfl rfl rfl (e_callH (A := [ownL 21 sv.v l]) (F := []) (CanCall.mk Tryz.call174) rfl rfl (.k rfl (.k rfl (.k rfl (.nil)))) (.refl _) (fun w bs h1 h2 h3 _ _ => insertion_spec sv l 0 l.length (by omega) (by omega) (by omega) w bs h1 h2 h3)) (fun l27 => ?_)
   refine sw_imp fun hm => (nP (cw_ret (post_then_r (post_blk_r (post_then_r (post_blk_r (post_ret0 rfl ?_)))))))
   exact fun w' hw => ⟨l27, rfl, hm, hw⟩
 · simp at h; omega
theorem sort12_spec (sv : SlV) (l : List Rn) (hb : l.length ≤ 12) (w : World) (bs : List Nat) (hs : Sep [ownL 21 sv.v l] w bs) (hn : bs.Nodup) (hlt : ∀ b ∈ bs, b < w.heap.size) :
   Calls Tryz.prog 118 #[sv.v] w fun e w' => ∃ l' : List Rn, e = .returned (.tuple #[]) ∧ (Mix l l' 0 l.length ∧ Srt l' 0 l.length) ∧ Cl w bs [ownL 21 sv.v l'] w' := by
 refine calls_cw (vs := [_]) Tryz.func118 rfl Tryz.ntmps118 rfl (Cl.start hs hn hlt) (zr (zm rfl ?_))
 refine zS rfl (q_len rfl (.k rfl (.nil)) (rdO (by exact .head _))) ?_
 refine za rfl (nP (cw_region (zm rfl (zm rfl (zm rfl (zS rfl (q_conv rfl rfl) ?_))))))
 refine sw_x rfl rfl rfl (e_call (CanCall.mk Tryz.call148) rfl (.k rfl (.nil)) (fun w hw => len_spec _ (by simp only [IntKind.wrap, IntKind.signed, IntKind.bits]; simp; omega) w)) (fun l9 => ?_)
 refine sw_imp fun _ => ?_
 refine sw_x rfl rfl rfl (e_callH (A := [ownL 21 sv.v l]) (F := []) (CanCall.mk Tryz.call147) rfl rfl (.k rfl (.k rfl (.k rfl (.k rfl (.nil))))) (.refl _) (fun w bs h1 h2 h3 _ _ => pdq12_spec sv l l9 hb w bs h1 h2 h3)) (fun l27 => ?_)
 refine sw_imp fun hm => (sw_nil (post_end0 rfl ?_))
 exact fun w' hw => ⟨l27, rfl, hm, hw⟩
end Go.Proofs.YtkmbliojafefdaaGreatDoor

set_option autoImplicit false
set_option maxRecDepth 100000
namespace Go.Proofs.YtkmbliojafefdaaGreatDoor
open Go.Sx
open Enc (enc val)
theorem index4_spec (sv : Value) (es : List Int) (v : Int) (w : World) (hs : Stb w [] (RdL sv es)) : Calls Tryz.prog 173 #[sv, .int .i64 v] w fun e w' => e = .returned (.int .i64 (idxP (fun x => decide (v = x)) es)) ∧ Cl w [] [] w' := by
 have hL := rd_len hs.here
 refine calls_cw (vs := [_, _]) Tryz.func173 rfl Tryz.ntmps173 rfl (Cl.start0 w) (zr (za rfl (nP (cw_seq (cw_seq (cw_region (zm rfl ?_)))))))
 refine zS rfl (q_len rfl (.k rfl (.nil)) (stA (by assumption))) ?_
 refine zm rfl (nP (cw_block ?_))
 refine cw_loop (S := Nat) (fun k => [(0, [], sv), (1, [], .int .i64 v), (7, [], .int .i64 es.length), (8, [], .int .i64 k)]) (fun _ => Cl w [] []) (fun k => k ≤ es.length ∧ ∀ j, j < k → decide (v = nth es j) = false) (fun k => es.length - k) 0 ⟨by omega, fun j hj => by omega⟩ (by exact .cons rfl (.cons rfl (.cons rfl (.cons rfl .nil)))) (fun _ h => h) ?_
 rintro k ⟨hk, hbe⟩
 refine zr (zS rfl (q_lss rfl rfl rfl) (nP (cw_seq ?_)))
 refine cw_cond rfl (fun h => ?_) (fun h => ?_)
 · have hk' : k < es.length := by simp only [decide_eq_true_eq] at h; omega
   refine sP (cw_seq (cw_block (zr (zm rfl (za rfl (nP (cw_seq (cw_region (zm rfl (zm rfl (zm rfl ?_)))))))))))
   refine zS rfl (q_indexN rfl rfl rfl (stA (by assumption)) (by intro hc; omega)) ?_
   refine zS rfl (q_loadEl rfl rfl rfl (stA (by assumption)) (by intro hc; omega)) ?_
   refine zS rfl (q_eql rfl rfl rfl) (nP ?_)
   refine cw_cond rfl (fun h2 => ?_) (fun h2 => ?_)
   · refine zr (zm rfl (za rfl (nP (cw_ret (post_blk_r (post_then_r (post_then_r (post_blk_r (post_then_r (post_ret1 rfl (resOk_tmp rfl) ?_))))))))))
     exact fun w' hw => ⟨by rw [idxP_at hk' hbe h2], hw⟩
   · refine cw_skip (post_blk (post_then (cw_region ?_)))
     refine zS rfl (q_add rfl rfl rfl (by intro hc; omega)) ?_
     refine zm rfl (sw_nil ?_)
     refine post_next (k + 1) (by exact .cons rfl (.cons rfl (.cons rfl (.cons rfl .nil)))) (fun _ h => h) ⟨by omega, fun j hj => ?_⟩ (by omega)
     by_cases hjk : j = k
     · rw [hjk]; exact h2
     · exact hbe j (by omega)
 · have hk' : k = es.length := by simp only [decide_eq_false_iff_not] at h; omega
   subst hk'
   refine cw_exit (post_then_x (post_then_x (post_blk_eq (post_then (zr (za rfl (nP (cw_ret (post_ret1 rfl (resOk_tmp rfl) ?_)))))))))
   exact fun w' hw => ⟨by rw [idxP_none hbe], hw⟩
theorem contains4_spec (sv : Value) (es : List Int) (v : Int) (w : World) (hs : Stb w [] (RdL sv es)) : Calls Tryz.prog 145 #[sv, .int .i64 v] w fun e w' => e = .returned (.bool (es.any fun x => decide (v = x))) ∧ Cl w [] [] w' := by
 refine calls_cw (vs := [_, _]) Tryz.func145 rfl Tryz.ntmps145 rfl (Cl.start0 w) (zr (za rfl (nP (cw_seq (cw_region (zm rfl (zm rfl ?_)))))))
 refine sw_step rfl rfl rfl (q_call (CanCall.mk Tryz.call173) rfl (.k rfl (.k rfl (.nil))) (fun _ w hw => callq hw (index4_spec _ _ _ w (by exact stb_arg hw (by assumption))))) ?_
 refine zS rfl (q_geq rfl rfl rfl) (za rfl (nP (cw_ret (post_ret1 rfl (resOk_tmp rfl) ?_))))
 exact fun w' hw => ⟨by rw [idxP_any], hw⟩
theorem orE_spec (sv : Value) (l : List Int) (w : World) (hs : Stb w [] (RdL sv l)) : Calls Tryz.prog 146 #[sv] w fun e w' => e = .returned (.int .i64 (orL l)) ∧ Cl w [] [] w' := by
 have hL := rd_len hs.here
 refine calls_cw (vs := [_]) Tryz.func146 rfl Tryz.ntmps146 rfl (Cl.start0 w) (zr (za rfl (nP (cw_seq (cw_region (za rfl (sw_nil (post_then (cw_seq (cw_seq (cw_region (zm rfl ?_))))))))))))
 refine zS rfl (q_len rfl (.k rfl (.nil)) (stA (by assumption))) ?_
 refine zm rfl (nP (cw_block ?_))
 refine cw_loop (S := Nat) (fun k => [(0, [], sv), (3, [], .int .i64 0), (6, [], sv), (7, [], .int .i64 l.length), (8, [], .int .i64 k)]) (fun _ => Cl w [] []) (fun k => k ≤ l.length ∧ ∀ j, j < k → nth l j = 0) (fun k => l.length - k) 0 ⟨by omega, fun j hj => by omega⟩ (by exact .cons rfl (.cons rfl (.cons rfl (.cons rfl (.cons rfl .nil))))) (fun _ h => h) ?_
 rintro k ⟨hk, hbe⟩
 refine zr (zS rfl (q_lss rfl rfl rfl) (nP (cw_seq ?_)))
 refine cw_cond rfl (fun h => ?_) (fun h => ?_)
 · have hk' : k < l.length := by simp at h; omega
   refine sP (cw_seq (cw_block (zr ?_)))
   refine zS rfl (q_indexN rfl rfl rfl (stA (by assumption)) (by intro hc; omega)) ?_
   refine zS rfl (q_loadEl rfl rfl rfl (stA (by assumption)) (by intro hc; omega)) ?_
   refine za rfl (nP (zr (zm rfl (zm rfl (zS rfl (q_neq rfl rfl rfl) (sw_nil (post_then ?_)))))))
   refine cw_cond rfl (fun h2 => ?_) (fun h2 => ?_)
   · have h3 : orL l = nth l k := by
       rw [orL_skip hbe (by omega), List.drop_eq_getElem_cons hk', ← nth_get hk']
       simp at h2
       simp [orL, h2]
     refine zr (zm rfl (za rfl (nP (cw_ret (post_blk_r (post_then_r (post_then_r (post_blk_r (post_then_r (post_ret1 rfl (resOk_tmp rfl) ?_))))))))))
     exact fun w' hw => ⟨by rw [h3]; rfl, hw⟩
   · refine cw_skip (post_blk (post_then (cw_region ?_)))
     refine zS rfl (q_add rfl rfl rfl (by intro hc; omega)) ?_
     refine zm rfl (sw_nil ?_)
     refine post_next (k + 1) (by exact .cons rfl (.cons rfl (.cons rfl (.cons rfl (.cons rfl .nil))))) (fun _ h => h) ⟨by omega, fun j hj => ?_⟩ (by omega)
     by_cases hjk : j = k
     · rw [hjk]; simpa using h2
     · exact hbe j (by omega)
 · have hk' : k = l.length := by simp at h; omega
   subst hk'
   have h3 : orL l = 0 := by rw [orL_skip hbe (Nat.le_refl _), List.drop_length]; rfl
   refine cw_exit (post_then_x (post_then_x (post_blk_eq (post_then (zr (zm rfl (za rfl (nP (cw_ret (post_ret1 rfl (resOk_tmp rfl) ?_))))))))))
   exact fun w' hw => ⟨by rw [h3], hw⟩
def worstC (l : List Int) : Int := if l.any fun x => decide (4 = x) then 4 else orL l
theorem worst_spec (sv : Value) (l : List Int) (w : World) (hs : Stb w [] (RdL sv l)) : Calls Tryz.prog 117 #[sv] w fun e w' => e = .returned (.int .i64 (worstC l)) ∧ Cl w [] [] w' := by
 refine calls_cw (vs := [_]) Tryz.func117 rfl Tryz.ntmps117 rfl (Cl.start0 w) (zr (za rfl (nP (cw_seq (cw_seq (cw_region (zm rfl ?_)))))))
 refine sw_step rfl rfl rfl (q_call (CanCall.mk Tryz.call145) rfl (.k rfl (.k rfl (.nil))) (fun _ w hw => callq hw (contains4_spec _ _ _ w (by exact stb_arg hw (by assumption))))) ?_
 refine nP ?_
 refine cw_cond rfl (fun h => ?_) (fun h => ?_)
 · have e : worstC l = 4 := by unfold worstC; rw [if_pos h]
   refine zr (za rfl (nP (cw_ret (post_then_r (post_ret1 rfl (resOk_tmp rfl) ?_)))))
   exact fun w' hw => ⟨by rw [e], hw⟩
 · have e : worstC l = orL l := by unfold worstC; rw [if_neg (by rw [h]; decide)]
   refine sP (zr (zm rfl ?_))
   refine sw_step rfl rfl rfl (q_call (CanCall.mk Tryz.call146) rfl (.k rfl (.nil)) (fun _ w hw => callq hw (orE_spec _ _ w (by exact stb_arg hw (by assumption))))) ?_
   refine za rfl (nP (cw_ret (post_ret1 rfl (resOk_tmp rfl) ?_)))
   exact fun w' hw => ⟨by rw [e], hw⟩
def SpIn (u : Sp) (w : World) : Prop := RdL u.p.v u.pl w
def spOk (u : Sp) : Bool := wordOk u.word && phonesOk u.pl 120
def spC (x y : Sp) : Int := cmpS x.word y.word
def lexE (l : List Sp) : Int := if 3000 < l.length then 4 else if riseB spC l && l.all spOk then 0 else 2
theorem byWord_spec (l : List Sp) : CmpL Tryz.prog 134 #[] spC (fun _ => True) l := by
 intro x hx y hy w _
 refine calls_cw (vs := [_, _]) Tryz.func134 rfl Tryz.ntmps134 rfl (Cl.start0 w) (zr ?_)
 refine sw_x rfl rfl rfl (e_box rfl rfl rfl) (fun b2 => ?_)
 refine sw_x rfl rfl rfl (e_box rfl rfl rfl) (fun b3 => ?_)
 refine za rfl (nP (zr (zS rfl (q_fieldAddr rfl rfl) ?_)))
 refine zS rfl (q_loadC rfl rfl (by exact .tail _ (.head _)) rfl) ?_
 refine zS rfl (q_fieldAddr rfl rfl) ?_
 refine zS rfl (q_loadC rfl rfl (by exact .head _) rfl) ?_
 refine sw_step rfl rfl rfl (q_call (CanCall.mk Tryz.call94) rfl (.k rfl (.k rfl (.nil))) (fun _ w hw => callq hw (strCmp_spec _ _ w))) (za rfl (nP (cw_ret (post_ret1 rfl (resOk_tmp rfl) ?_))))
 exact fun w' hw => ⟨rfl, (Cl.sel (by exact .nil _)) _ hw⟩
theorem badSp_spec (l : List Sp) (hsz : ∀ u ∈ l, u.word.size ≤ 1000000) : PredL Tryz.prog 136 #[] (fun u => !spOk u) (fun w => Tab w ∧ ∀ u ∈ l, SpIn u w) l := by
 intro u hu w ⟨hT, hR⟩
 have hT1 := tab_stb hT
 have hus : u.word.size ≤ 9223372036854775806 := by have := hsz u hu; omega
 have r1 : Stb w [] (RdL u.p.v u.pl) := rd_stb (hR u hu)
 refine calls_cw (vs := [_]) Tryz.func136 rfl Tryz.ntmps136 rfl (Cl.start0 w) (zr ?_)
 refine sw_x rfl rfl rfl (e_box rfl rfl rfl) (fun b1 => ?_)
 refine za rfl (nP (zr (zS rfl (q_fieldAddr rfl rfl) ?_)))
 refine zS rfl (q_loadC rfl rfl (by exact .head _) rfl) ?_
 refine sw_step rfl rfl rfl (q_call (CanCall.mk Tryz.call62) rfl (.k rfl (.nil)) (fun _ w hw => callq hw (isWord_spec _ w (by assumption) (stb_arg hw (by assumption))))) ?_
 refine zS rfl (q_not rfl rfl) (zm rfl (zS rfl (q_fieldAddr rfl rfl) ?_))
 refine zS rfl (q_loadC rfl rfl (by exact .head _) rfl) ?_
 refine sw_step rfl rfl rfl (q_call (CanCall.mk Tryz.call63) rfl (.k rfl (.k rfl (.nil))) (fun _ w hw => callq hw (phones_spec _ _ _ w (by exact stb_arg hw (by assumption))))) ?_
 refine zS rfl (q_not rfl rfl) (zS rfl (q_or2 rfl rfl rfl) (za rfl (nP (cw_ret (post_ret1 rfl (resOk_tmp rfl) ?_)))))
 refine fun w' hw => ⟨?_, (Cl.sel (by exact .nil _)) _ hw⟩
 congr 2
 unfold spOk; dsimp only
 cases wordOk u.word <;> cases phonesOk u.pl 120 <;> rfl
theorem lexicon_spec (sv : Value) (l : List Sp) (hsz : ∀ u ∈ l, u.word.size ≤ 1000000) (w : World) (hT : Stb w [] Tab) (hs : Stb w [] (RdL sv l)) (hp : Stb w [] fun w' => ∀ u ∈ l, SpIn u w') : Calls Tryz.prog 95 #[sv] w fun e w' => e = .returned (.int .i64 (lexE l)) ∧ Cl w [] [] w' := by
 have hL := rd_len hs.here
 have hTp : Stb w [] fun w' => Tab w' ∧ ∀ u ∈ l, SpIn u w' := ⟨fun w' k => ⟨hT.stb w' k, hp.stb w' k⟩⟩
 refine calls_cw (vs := [_]) Tryz.func95 rfl Tryz.ntmps95 rfl (Cl.start0 w) (zr (za rfl (nP (cw_seq (cw_seq (cw_region (zm rfl ?_)))))))
 refine zS rfl (q_len rfl (.k rfl (.nil)) (stA (by assumption))) ?_
 refine zS rfl (q_gtr rfl rfl rfl) (nP ?_)
 refine cw_cond rfl (fun h => ?_) (fun h => ?_)
 · have e : lexE l = 4 := by simp at h; unfold lexE; rw [if_pos (by omega)]
   refine zr (za rfl (nP (cw_ret (post_then_r (post_ret1 rfl (resOk_tmp rfl) ?_)))))
   exact fun w' hw => ⟨by rw [e], hw⟩
 · have h1 : ¬ 3000 < l.length := by simp at h; omega
   refine sP (cw_seq (zr (zm rfl ?_)))
   refine sw_step rfl rfl rfl (q_call (CanCall.mk Tryz.call133) rfl (.k rfl (.k rfl (.nil))) (fun _ w hw => callq hw (riseSp_spec _ _ _ _ _ _ w (by exact stb_arg hw (by assumption)) (stb_true w []) (CanCall.mk Tryz.call134) (byWord_spec l)))) ?_
   refine zS rfl (q_not rfl rfl) (zm rfl (zm rfl ?_))
   refine sw_step rfl rfl rfl (q_call (CanCall.mk Tryz.call135) rfl (.k rfl (.k rfl (.nil))) (fun _ w hw => callq hw (hasSp_spec _ _ _ _ _ _ w (by exact stb_arg hw (by assumption)) (stb_arg hw hTp) (CanCall.mk Tryz.call136) (badSp_spec l hsz)))) ?_
   refine zS rfl (q_or2 rfl rfl rfl) (nP ?_)
   rw [all_not_any]
   refine cw_cond rfl (fun h2 => ?_) (fun h2 => ?_)
   · have e : lexE l = 2 := by
       unfold lexE; rw [if_neg h1, if_neg]
       cases h3 : riseB spC l <;> cases h4 : l.all spOk <;> simp [h3, h4] at h2 ⊢
     refine zr (za rfl (nP (cw_ret (post_then_r (post_ret1 rfl (resOk_tmp rfl) ?_)))))
     exact fun w' hw => ⟨by rw [e], hw⟩
   · have e : lexE l = 0 := by
       unfold lexE; rw [if_neg h1, if_pos]
       cases h3 : riseB spC l <;> cases h4 : l.all spOk <;> simp [h3, h4] at h2 ⊢
     refine sP (zr (za rfl (nP (cw_ret (post_ret1 rfl (resOk_tmp rfl) ?_)))))
     exact fun w' hw => ⟨by rw [e], hw⟩
def lrnB (o : Lrn) : Bool := decide (1 ≤ o.reach) && decide (o.reach ≤ 3) && decide (1 ≤ o.least) && decide (o.least ≤ 1000) && decide (1 ≤ o.most) && decide (o.most ≤ 500)
theorem lrnOk_of {o : Lrn} (h : lrnB o = true) : LrnOk o := by
 unfold lrnB at h
 simp only [Bool.and_eq_true, decide_eq_true_eq] at h
 exact ⟨by omega, by omega, by omega⟩
def optE (l : List Sp) (p : List Pr) (o : Lrn) : Int := if worstC [lexE l, prsE p] ≠ 0 then worstC [lexE l, prsE p] else if lrnB o then 0 else 2
theorem options_spec (sl sp : Value) (l : List Sp) (p : List Pr) (o : Lrn) (hsz : ∀ u ∈ l, u.word.size ≤ 1000000) (w : World) (hT : Stb w [] Tab) (hs : Stb w [] (RdL sl l)) (hl : Stb w [] fun w' => ∀ u ∈ l, SpIn u w') (hp0 : Stb w [] (RdL sp p)) (hp : Stb w [] fun w' => ∀ u ∈ p, PrIn u w') :
   Calls Tryz.prog 69 #[sl, sp, val o] w fun e w' => e = .returned (.int .i64 (optE l p o)) ∧ Cl w [] [] w' := by
 refine calls_cw (vs := [_, _, _]) Tryz.func69 rfl Tryz.ntmps69 rfl (Cl.start0 w) (zr ?_)
 refine sw_x rfl rfl rfl (e_box rfl rfl rfl) (fun b5 => ?_)
 refine za rfl (nP (cw_seq (zr (zm rfl ?_))))
 refine sw_step rfl rfl rfl (q_call (CanCall.mk Tryz.call95) rfl (.k rfl (.nil)) (fun _ w hw => callq hw (lexicon_spec _ _ (by assumption) w (stb_arg hw (by assumption)) (by exact stb_arg hw (by assumption)) (stb_arg hw (by assumption))))) ?_
 refine zm rfl ?_
 refine sw_step rfl rfl rfl (q_call (CanCall.mk Tryz.call61) rfl (.k rfl (.nil)) (fun _ w hw => callq hw (pairs_spec _ _ w (by exact stb_arg hw (by assumption)) (stb_arg hw (by assumption))))) ?_
 refine sw_x rfl rfl rfl (e_buildL (α := Int) (l := [lexE l, prsE p]) rfl (.k rfl (.k rfl (.nil))) rfl rfl rfl rfl) (fun s12 => ?_)
 refine sw_step rfl rfl rfl (q_call (CanCall.mk Tryz.call117) rfl (.k rfl (.nil)) (fun _ w hw => callq hw (worst_spec _ _ w (by exact stb_own hw (by exact .head _))))) ?_
 refine za rfl (nP (zr (zm rfl (zS rfl (q_neq rfl rfl rfl) (sw_nil (post_then ?_))))))
 refine cw_cond rfl (fun h => ?_) (fun h => ?_)
 · have e : optE l p o = worstC [lexE l, prsE p] := by unfold optE; rw [if_pos (by simpa using h)]
   refine zr (zm rfl (za rfl (nP (cw_ret (post_then_r (post_ret1 rfl (resOk_tmp rfl) ?_))))))
   exact fun w' hw => ⟨by rw [e], (Cl.sel (by exact .nil _)) _ hw⟩
 · have e : optE l p o = if lrnB o then 0 else 2 := by unfold optE; rw [if_neg (by simpa using h)]
   refine sP (cw_seq (zr (zS rfl (q_fieldAddr rfl rfl) ?_)))
   refine zS rfl (q_loadC rfl rfl (by exact .tail _ (.head _)) rfl) ?_
   refine zS rfl (q_lss rfl rfl rfl) (zm rfl (zS rfl (q_fieldAddr rfl rfl) ?_))
   refine zS rfl (q_loadC rfl rfl (by exact .tail _ (.head _)) rfl) ?_
   refine zS rfl (q_gtr rfl rfl rfl) (zS rfl (q_or2 rfl rfl rfl) (zm rfl (zS rfl (q_fieldAddr rfl rfl) ?_)))
   refine zS rfl (q_loadC rfl rfl (by exact .tail _ (.head _)) rfl) ?_
   refine zS rfl (q_lss rfl rfl rfl) (zS rfl (q_or2 rfl rfl rfl) (zm rfl (zS rfl (q_fieldAddr rfl rfl) ?_)))
   refine zS rfl (q_loadC rfl rfl (by exact .tail _ (.head _)) rfl) ?_
   refine zS rfl (q_gtr rfl rfl rfl) (zS rfl (q_or2 rfl rfl rfl) (zm rfl (zS rfl (q_fieldAddr rfl rfl) ?_)))
   refine zS rfl (q_loadC rfl rfl (by exact .tail _ (.head _)) rfl) ?_
   refine zS rfl (q_lss rfl rfl rfl) (zS rfl (q_or2 rfl rfl rfl) (zm rfl (zS rfl (q_fieldAddr rfl rfl) ?_)))
   refine zS rfl (q_loadC rfl rfl (by exact .tail _ (.head _)) rfl) ?_
   refine zS rfl (q_gtr rfl rfl rfl) (zS rfl (q_or2 rfl rfl rfl) (nP ?_))
   refine cw_cond rfl (fun h2 => ?_) (fun h2 => ?_)
   · have e2 : lrnB o = false := by
       cases h3 : lrnB o with
       | false => rfl
       | true =>
         unfold lrnB at h3
         simp only [Bool.and_eq_true, decide_eq_true_eq] at h3
         simp at h2; omega
     refine zr (za rfl (nP (cw_ret (post_then_r (post_ret1 rfl (resOk_tmp rfl) ?_)))))
     exact fun w' hw => ⟨by rw [e, e2]; rfl, (Cl.sel (by exact .nil _)) _ hw⟩
   · have e2 : lrnB o = true := by
       unfold lrnB
       simp only [Bool.and_eq_true, decide_eq_true_eq]
       simp at h2; omega
     refine sP (zr (za rfl (nP (cw_ret (post_ret1 rfl (resOk_tmp rfl) ?_)))))
     exact fun w' hw => ⟨by rw [e, e2]; rfl, (Cl.sel (by exact .nil _)) _ hw⟩
end Go.Proofs.YtkmbliojafefdaaGreatDoor

set_option autoImplicit false
set_option maxRecDepth 100000
namespace Go.Proofs.YtkmbliojafefdaaGreatDoor
open Go.Sx
open Enc (enc val)
theorem path_ok {p : List Pr} : ∀ {ws : List Rn} {l : List ByteArray}, 0 ≤ leastC p ws l → (pathC p ws l).length = ws.length ∧ ∀ q ∈ pathC p ws l, ∃ x ∈ p, q = x.pl
 | [], l, _ => by simp [pathC]
 | c :: ws, l, h => by
   obtain ⟨x, _, hx, _, h0, he⟩ := path_step h
   have ih := path_ok h0
   rw [he]
   refine ⟨by simp [ih.1], fun q hq => ?_⟩
   rcases List.mem_cons.1 hq with rfl | hq
   · exact ⟨x, (offers_mem.1 hx).1, rfl⟩
   · exact ih.2 q hq
def EtIn (u : Ety) (w : World) : Prop := RdRQ u.s.v u.sl w
def entC (p : List Pr) (l : List Sp) : List (ByteArray × List (List ByteArray)) := (l.filter fun u => alOk p u.word u.pl).map fun u => (u.word, alP p u.word u.pl)
theorem ent_take {p : List Pr} {l : List Sp} {k : Nat} (hk : k < l.length) : entC p (l.take (k + 1)) = entC p (l.take k) ++ if alOk p (nth l k).word (nth l k).pl then [((nth l k).word, alP p (nth l k).word (nth l k).pl)] else [] := by
 unfold entC
 rw [List.take_succ_eq_append_getElem hk, List.filter_append, List.map_append, nth_get hk]
 congr 1
 by_cases h : alOk p l[k].word l[k].pl = true <;> simp [h]
theorem ent_le (p : List Pr) (l : List Sp) : (entC p l).length ≤ l.length := by
 unfold entC; rw [List.length_map]; exact List.length_filter_le _ _
theorem entries_spec (sl sp : SlV) (l : List Sp) (p : List Pr) (hsz : ∀ u ∈ l, u.word.size ≤ 1000000) (hl0 : lexE l = 0) (hp0 : prsE p = 0) (w : World) (hs : Stb w [] (RdL sl.v l)) (hli : Stb w [] fun w' => ∀ u ∈ l, SpIn u w') (hp : Stb w [] (RdL sp.v p)) (hpi : Stb w [] fun w' => ∀ u ∈ p, PrIn u w') :
   Calls Tryz.prog 71 #[sl.v, sp.v] w fun e w' => ∃ y : SlV × List Ety, e = .returned y.1.v ∧ (y.2.map fun u => (u.word, u.sl)) = entC p l ∧ Cl w [] [Sx.frz fun w => RdL y.1.v y.2 w ∧ ∀ u ∈ y.2, EtIn u w] w' := by
 have hL := rd_len hs.here
 obtain ⟨z1, z2, z3, z4, z5⟩ := prsE_zero hp0
 have hl1 : l.length ≤ 3000 ∧ ∀ u ∈ l, spOk u = true := by
   unfold lexE at hl0
   split at hl0
   · cases hl0
   · split at hl0
     · rename_i h1 h2
       simp only [Bool.and_eq_true, List.all_eq_true] at h2
       exact ⟨by omega, h2.2⟩
     · cases hl0
 refine calls_cw (vs := [_, _]) Tryz.func71 rfl Tryz.ntmps71 rfl (Cl.start0 w) (zr (za rfl (nP (cw_seq (cw_region (za rfl (sw_nil (post_then (cw_seq (cw_seq (cw_region (zm rfl ?_))))))))))))
 refine zS rfl (q_len rfl (.k rfl (.nil)) (stA (by assumption))) ?_
 refine zm rfl (nP (cw_block ?_))
 refine cw_loop (S := Nat × SlV × List Ety) (fun y => [(1, [], sp.v), (5, [], y.2.1.v), (11, [], sl.v), (12, [], .int .i64 l.length), (13, [], .int .i64 y.1)]) (fun y => Cl w [] [ownL 153 y.2.1.v y.2.2, Sx.frz (fun w => ∀ u ∈ y.2.2, EtIn u w)]) (fun y => y.1 ≤ l.length ∧ (y.2.2.map fun u => (u.word, u.sl)) = entC p (l.take y.1)) (fun y => l.length - y.1) (0, ⟨none, 0, 0⟩, []) ⟨by simp, by simp [entC]⟩ (by exact .cons rfl (.cons rfl (.cons rfl (.cons rfl (.cons rfl .nil))))) (fun w' h => Cl.addNil 153 (cl_true (fun w => by simp) h)) ?_
 rintro ⟨k, so, out⟩ ⟨hk, hout⟩
 dsimp only at hk hout ⊢
 have hol : out.length ≤ 3000 := by
   have h1 := ent_le p (l.take k)
   rw [← hout, List.length_map, List.length_take] at h1; omega
 refine zr (zS rfl (q_lss rfl rfl rfl) (nP (cw_seq ?_)))
 refine cw_cond rfl (fun h => ?_) (fun h => ?_)
 · have hk' : k < l.length := by simp at h; omega
   obtain ⟨u, hu⟩ : ∃ u, nth l k = u := ⟨_, rfl⟩
   have hum : u ∈ l := by rw [← hu]; exact nth_mem hk'
   have huo := hl1.2 u hum
   have hus := hsz u hum
   have hui : Stb w [] (RdL u.p.v u.pl) := stb_map hli fun _ h => h u hum
   have h3 : wordOk u.word = true ∧ phonesOk u.pl 120 = true := by simpa [spOk] using huo
   have hrl : (runes u.word).length ≤ 40 := by have := h3.1; simp [wordOk] at this; omega
   have hll : u.pl.length ≤ 120 := by have := h3.2; simp [phonesOk] at this; omega
   have hst := ent_take (p := p) hk'
   rw [hu] at hst
   refine sP (cw_seq (cw_block (zr ?_)))
   refine zS rfl (q_indexN rfl rfl rfl (stA (by assumption)) (by intro hc; omega)) ?_
   refine zS rfl (q_loadEl rfl rfl rfl (stA (by assumption)) (by intro hc; omega)) ?_
   rw [hu]
   refine sw_x rfl rfl rfl (e_alloc rfl) (fun b7 => ?_)
   refine sw_eff0 rfl rfl (e_store (i := 0) rfl rfl rfl rfl rfl rfl rfl rfl) (nP (zr (zm rfl (zS rfl (q_fieldAddr rfl rfl) ?_))))
   refine zS rfl (q_loadC rfl rfl (by exact .head _) rfl) ?_
   refine zS rfl (q_fieldAddr rfl rfl) ?_
   refine zS rfl (q_loadC rfl rfl (by exact .head _) rfl) ?_
   refine sw_x rfl rfl rfl (e_call (CanCall.mk Tryz.call64) rfl (.k rfl (.k rfl (.k rfl (.nil)))) (fun w1 hw => aligned_spec sp u.p p u.word u.pl (by omega) hus (by omega) z1 z2 (fun x hx => by have := z3 x hx; omega) w1 (stb_arg hw hp) (stb_arg hw hpi) (stb_arg hw hui))) (fun x23 => ?_)
   refine sw_imp fun _ => (zm rfl (zS rfl (q_extract rfl rfl rfl) (zS rfl (q_extract rfl rfl rfl) (zS rfl (q_extract rfl rfl rfl) (za rfl (za rfl (za rfl (nP (zr (zm rfl (sw_nil (post_then ?_))))))))))))
   refine cw_cond rfl (fun h5 => ?_) (fun h5 => ?_)
   · have h6 : alOk p u.word u.pl = true := h5
     rw [if_pos h6] at hst
     refine cw_region (zm rfl ?_)
     refine zS rfl (q_loadA rfl rfl (by exact .tail _ (.head _)) rfl) ?_
     refine zm rfl (zS rfl (q_build rfl (.k rfl (.k rfl (.nil))) rfl) ?_)
     refine sw_x rfl rfl rfl (e_buildL (α := Ety) (l := [⟨u.word, u.p, x23, alP p u.word u.pl, u.pl⟩]) rfl (.k rfl (.nil)) rfl rfl rfl rfl) (fun s32 => ?_)
     refine sw_x rfl rfl rfl (e_append (i := 3) rfl (.k rfl (.k rfl (.nil))) rfl rfl (rdO (by exact .head _)) (by first | omega | (simp only [List.length_set, List.length_append, List.length_cons, List.length_nil, List.length_replicate, List.length_take, List.length_drop, List.length_map]; omega)) rfl) (fun s33 => ?_)
     refine za rfl (sw_nil (post_blk (post_then (cw_region ?_))))
     refine zS rfl (q_add rfl rfl rfl (by intro hc; omega)) ?_
     refine zm rfl (sw_nil ?_)
     refine post_next (k + 1, s33, out ++ [⟨u.word, u.p, x23, alP p u.word u.pl, u.pl⟩]) (by exact .cons rfl (.cons rfl (.cons rfl (.cons rfl (.cons rfl .nil))))) (fun w' h => ?_) ⟨by simp only; omega, by simp only [List.map_append]; rw [hst, ← hout]; rfl⟩ (by simp only; omega)
     have h1 : Cl w [] ([Sx.frz (RdRQ x23.v (alP p u.word u.pl)), Sx.frz (fun w => ∀ u ∈ out, EtIn u w)] ++ [ownL 153 s33.v (out ++ [⟨u.word, u.p, x23, alP p u.word u.pl, u.pl⟩])]) w' := (Cl.sel (by exact .take 1 rfl (.take 3 rfl (.take 2 rfl (.nil _))))) _ h
     have h2 := Cl.frz (R := fun w => ∀ q ∈ out ++ [⟨u.word, u.p, x23, alP p u.word u.pl, u.pl⟩], EtIn q w) h1 fun w bs ⟨b1, _, _, k1, b2, _, _, k2, _⟩ q hq => by
       rcases List.mem_append.1 hq with hq | hq
       · exact frz_here k2 q hq
       · simp at hq; subst hq; exact frz_here k1
     exact (Cl.sel (by exact .take 1 rfl (.take 0 rfl (.nil _)))) _ h2
   · have h6 : alOk p u.word u.pl = false := h5
     rw [if_neg (by rw [h6]; decide), List.append_nil] at hst
     refine cw_skip (post_blk (post_then (cw_region ?_)))
     refine zS rfl (q_add rfl rfl rfl (by intro hc; omega)) ?_
     refine zm rfl (sw_nil ?_)
     exact post_next (k + 1, so, out) (by exact .cons rfl (.cons rfl (.cons rfl (.cons rfl (.cons rfl .nil))))) (fun w' h => (Cl.sel (by exact .take 2 rfl (.take 2 rfl (.nil _)))) _ h) ⟨by simp only; omega, by simp only; rw [hst, ← hout]⟩ (by simp only; omega)
 · have hk' : k = l.length := by simp at h; omega
   rw [hk', List.take_length] at hout
   refine cw_exit (post_then_x (post_then_x (post_blk_eq (post_then (zr (zm rfl (za rfl (nP (cw_ret (post_ret1 rfl (resOk_tmp rfl) ?_))))))))))
   exact fun w' hw => ⟨(so, out), rfl, hout, Cl.frz2 (Cl.frzL hw)⟩
end Go.Proofs.YtkmbliojafefdaaGreatDoor

set_option autoImplicit false
set_option maxRecDepth 100000
namespace Go.Proofs.YtkmbliojafefdaaGreatDoor
open Go.Sx
def XL.bl (e : XL) : XL := ⟨default, e.at_, default, e.wl, e.pl⟩
def Tly.bl (u : Tly) : Tly := ⟨u.t, default, u.n, u.m, u.pl⟩
theorem candB_bl (e : XL) (a : Int) : ∀ (n : Nat) (b : Int), candB e.bl a b n = candB e a b n
 | 0, _ => rfl
 | n + 1, b => by unfold candB; rw [candB_bl e a n]; rfl
theorem candL_bl (e : XL) (r : Int) : ∀ (n : Nat) (a : Int), candL e.bl r a n = candL e r a n
 | 0, _ => rfl
 | n + 1, a => by unfold candL; rw [candL_bl e r n, candB_bl]; rfl
theorem cands_bl (e : XL) (r : Int) : cands e.bl r = cands e r := candL_bl e r _ _
theorem cnt_bl (l : List XL) (pl : List ByteArray) : cnt (l.map XL.bl) pl = cnt l pl := by
 unfold cnt; rw [List.countP_map]; rfl
theorem most_bl (l : List XL) : mostC (l.map XL.bl) = ⟨default, (mostC l).b, (mostC l).m⟩ := by
 have key : ∀ (q : List XL) (s : MS), (q.map XL.bl).foldl (mostStep (l.map XL.bl)) ⟨default, s.b, s.m⟩ = ⟨default, (q.foldl (mostStep l) s).b, (q.foldl (mostStep l) s).m⟩ := by
   intro q
   induction q with
   | nil => intro s; rfl
   | cons x q ih =>
     intro s
     rw [List.map_cons, List.foldl_cons, List.foldl_cons]
     have h1 : mostStep (l.map XL.bl) ⟨default, s.b, s.m⟩ x.bl = ⟨default, (mostStep l s x).b, (mostStep l s x).m⟩ := by
       unfold mostStep
       rw [cnt_bl]
       show (if s.m < ((cnt l x.pl : Nat) : Int) ∨ (((cnt l x.pl : Nat) : Int) = s.m ∧ ordL x.pl s.b < 0) then (⟨default, x.pl, (cnt l x.pl : Nat)⟩ : MS) else _) = _
       by_cases h : s.m < ((cnt l x.pl : Nat) : Int) ∨ (((cnt l x.pl : Nat) : Int) = s.m ∧ ordL x.pl s.b < 0)
       · rw [if_pos h, if_pos h]
       · rw [if_neg h, if_neg h]
     rw [h1, ih]
 exact key l ⟨⟨none, 0, 0⟩, [], 0⟩
theorem held_bl (l : List XL) (r : Int) (k : TT) : heldC (l.map XL.bl) r k = (heldC l r k).map XL.bl := by
 unfold heldC
 rw [List.filter_map]
 congr 1
 apply List.filter_congr
 intro e _
 simp only [Function.comp, cands_bl]
theorem tly_bl (l : List XL) (r : Int) (t : TT) : tlyOf (l.map XL.bl) r t = (tlyOf l r t).bl := by
 unfold tlyOf Tly.bl
 rw [held_bl, most_bl, List.length_map]
theorem tallies_bl (l : List XL) (r least : Int) : tallies (l.map XL.bl) r least = (tallies l r least).map Tly.bl := by
 unfold tallies
 have h1 : ((l.map XL.bl).flatMap fun e => cands e r) = l.flatMap fun e => cands e r := by
   rw [List.flatMap_map]
   congr 1; funext e; exact cands_bl e r
 have h2 : tlyOf (l.map XL.bl) r = fun t => (tlyOf l r t).bl := by funext t; exact tly_bl l r t
 rw [h1, h2, List.filter_map, List.filter_map, List.map_map]
 rfl
theorem minBy_map {α β : Type} [Inhabited α] [Inhabited β] {c : α → α → Int} {d : β → β → Int} (f : α → β) (hf : ∀ x y, d (f x) (f y) = c x y) {l : List α} (h0 : 0 < l.length) : minBy d (l.map f) = f (minBy c l) := by
 have key : ∀ (q : List α) (m : α), (q.map f).foldl (fun m x => if d x m < 0 then x else m) (f m) = f (q.foldl (fun m x => if c x m < 0 then x else m) m) := by
   intro q
   induction q with
   | nil => intro m; rfl
   | cons x q ih =>
     intro m
     rw [List.map_cons, List.foldl_cons, List.foldl_cons, hf]
     split
     · exact ih x
     · exact ih m
 unfold minBy
 have h1 : nth (l.map f) 0 = f (nth l 0) := by rw [nth_get (by simpa using h0), nth_get h0]; simp
 rw [h1, ← List.map_drop]
 exact key _ _
theorem best_bl (l : List XL) (r least : Int) : bestC (l.map XL.bl) r least = (bestC l r least).map Tly.bl := by
 unfold bestC
 rw [tallies_bl]
 by_cases h : tallies l r least = []
 · rw [h]; rfl
 · rw [if_neg h, if_neg (by simpa using h), minBy_map (c := betC) Tly.bl (fun _ _ => rfl) (List.length_pos_iff.2 h)]
   rfl
theorem listF_bl (o : Lrn) : ∀ (n : Nat) (lf : List XL) (out : List (List Cond × List ByteArray)), listF o n (lf.map XL.bl) out = ((listF o n lf out).1.map XL.bl, (listF o n lf out).2)
 | 0, lf, out => rfl
 | n + 1, lf, out => by
   unfold listF
   rw [List.length_map, most_bl, best_bl]
   dsimp only
   split
   · split
     · rfl
     · cases bestC lf o.reach o.least with
       | none => rfl
       | some u =>
         simp only [Option.map_some]
         have h1 : ((lf.map XL.bl).filter fun e => !holdsC e.wl e.at_ u.bl.t.list) = (lf.filter fun e => !holdsC e.wl e.at_ u.t.list).map XL.bl := by
           rw [List.filter_map]; rfl
         rw [h1, listF_bl o n]; rfl
   · rfl
theorem listC_bl (l : List XL) (o : Lrn) : listC (l.map XL.bl) o = listC l o := by
 unfold listC lastC
 rw [List.length_map, listF_bl]
 simp only [List.length_map]
 congr 3
 split
 · rw [most_bl]
 · rw [most_bl]
abbrev XP := List Rn × Int × List ByteArray
def plX (e : XL) : XP := (e.wl, e.at_, e.pl)
def toXL (x : XP) : XL := ⟨default, x.2.1, default, x.1, x.2.2⟩
theorem listC_pl {l : List XL} {q : List XP} (h : l.map plX = q) (o : Lrn) : listC l o = listC (q.map toXL) o := by
 rw [← h, List.map_map, ← listC_bl]; rfl
def evAt (ws : List Rn) (ll : List (List ByteArray)) (i : Nat) : Rn × XP := (nth ws i, (ws, (i : Int), nth ll i))
def evOf (u : ByteArray × List (List ByteArray)) : List (Rn × XP) := (List.range (runes u.1).length).map fun i => evAt (runes u.1) u.2 i
def insR (acc : List Rn) (c : Rn) : List Rn := if c ∈ acc then acc else acc ++ [c]
def abcC (q : List (Rn × XP)) : List Rn := (q.map (·.1)).foldl insR []
def putR (c : Rn) : List Rn → List Rn
 | [] => [c]
 | x :: l => if c.v ≤ x.v then c :: x :: l else x :: putR c l
def sortR (l : List Rn) : List Rn := l.foldr putR []
def xsC (q : List (Rn × XP)) (c : Rn) : List XP := (q.filter fun x => decide (x.1 = c)).map (·.2)
def learnC (o : Lrn) (ents : List (ByteArray × List (List ByteArray))) : List (Int × List (List Cond × List ByteArray)) :=
 (sortR (abcC (ents.flatMap evOf))).map fun c => (c.v, listC ((xsC (ents.flatMap evOf) c).map toXL) o)
theorem abc_snoc (q : List (Rn × XP)) (x : Rn × XP) : abcC (q ++ [x]) = insR (abcC q) x.1 := by
 unfold abcC; rw [List.map_append, List.foldl_append]; rfl
theorem abc_mem (q : List (Rn × XP)) (c : Rn) : c ∈ abcC q ↔ xsC q c ≠ [] := by
 have key : ∀ q : List (Rn × XP), ∀ acc : List Rn, c ∈ (q.map (·.1)).foldl insR acc ↔ c ∈ acc ∨ xsC q c ≠ [] := by
   intro q
   induction q with
   | nil => intro acc; simp [xsC]
   | cons x q ih =>
     intro acc
     rw [List.map_cons, List.foldl_cons, ih]
     have e : xsC (x :: q) c = (if x.1 = c then [x.2] else []) ++ xsC q c := by
       unfold xsC
       by_cases h : x.1 = c <;> simp [h]
     rw [e]
     unfold insR
     by_cases h : x.1 = c
     · subst h
       by_cases h2 : x.1 ∈ acc <;> simp [h2]
     · have h3 : ¬ c = x.1 := fun e => h e.symm
       by_cases h2 : x.1 ∈ acc <;> simp [h2, h, h3]
 have := key q []
 unfold abcC
 simpa using this
theorem abc_nodup (q : List (Rn × XP)) : (abcC q).Nodup := by
 have key : ∀ (q : List Rn) (acc : List Rn), acc.Nodup → (q.foldl insR acc).Nodup := by
   intro q
   induction q with
   | nil => intro acc h; exact h
   | cons x q ih =>
     intro acc h
     rw [List.foldl_cons]
     apply ih
     unfold insR
     split
     · exact h
     · rename_i h2
       refine List.nodup_append.2 ⟨h, by simp, fun a ha b hb hab => ?_⟩
       simp at hb; subst hb; subst hab; exact h2 ha
 exact key _ [] (by simp)
theorem putR_perm (c : Rn) : ∀ l : List Rn, (putR c l).Perm (c :: l)
 | [] => .refl _
 | x :: l => by
   unfold putR
   split
   · exact .refl _
   · exact ((putR_perm c l).cons x).trans (.swap c x l)
theorem sortR_perm : ∀ l : List Rn, (sortR l).Perm l
 | [] => .refl _
 | c :: l => (putR_perm c _).trans ((sortR_perm l).cons c)
theorem putR_asc (c : Rn) : ∀ l : List Rn, l.Pairwise (fun x y => x.v ≤ y.v) → (putR c l).Pairwise fun x y => x.v ≤ y.v
 | [], _ => by simp [putR]
 | x :: l, h => by
   unfold putR
   rw [List.pairwise_cons] at h
   split
   · rename_i h1
     rw [List.pairwise_cons, List.pairwise_cons]
     refine ⟨fun y hy => ?_, h⟩
     rcases List.mem_cons.1 hy with rfl | hy
     · exact h1
     · exact Int.le_trans h1 (h.1 y hy)
   · rename_i h1
     rw [List.pairwise_cons]
     refine ⟨fun y hy => ?_, putR_asc c l h.2⟩
     rcases List.mem_cons.1 ((putR_perm c l).mem_iff.1 hy) with rfl | hy
     · omega
     · exact h.1 y hy
theorem sortR_asc : ∀ l : List Rn, (sortR l).Pairwise fun x y => x.v ≤ y.v
 | [] => .nil
 | c :: l => putR_asc c _ (sortR_asc l)
theorem asc_eq : ∀ {l m : List Rn}, l.Perm m → l.Pairwise (fun x y => x.v ≤ y.v) → m.Pairwise (fun x y => x.v ≤ y.v) → l = m
 | [], m, h, _, _ => h.nil_eq
 | x :: l, [], h, _, _ => absurd h.length_eq (by simp)
 | x :: l, y :: m, h, hl, hm => by
   rw [List.pairwise_cons] at hl hm
   have hx : x ∈ y :: m := h.mem_iff.1 (.head _)
   have hy : y ∈ x :: l := h.mem_iff.2 (.head _)
   have e : x = y := by
     rcases List.mem_cons.1 hx with e | hx
     · exact e
     · rcases List.mem_cons.1 hy with e | hy
       · exact e.symm
       · have h1 := hl.1 y hy
         have h2 := hm.1 x hx
         have h3 : x.v = y.v := by omega
         cases x; cases y; simp at h3; rw [h3]
   subst e
   rw [asc_eq (h.cons_inv) hl.2 hm.2]
theorem srt_asc {l : List Rn} (h : Srt l 0 l.length) : l.Pairwise fun x y => x.v ≤ y.v := by
 rw [List.pairwise_iff_getElem]
 intro i j hi hj hij
 have := h i j (Nat.zero_le _) hij hj
 rwa [nth_get hi, nth_get hj] at this
theorem sort_eq {l l' : List Rn} (h : l'.Perm l) (hs : Srt l' 0 l'.length) : l' = sortR l := asc_eq (h.trans (sortR_perm l).symm) (srt_asc hs) (sortR_asc l)
end Go.Proofs.YtkmbliojafefdaaGreatDoor

set_option autoImplicit false
set_option maxRecDepth 100000
namespace Go.Proofs.YtkmbliojafefdaaGreatDoor
open Go.Sx
open Enc (enc val)
theorem reverse_spec (sv : SlV) (l : List Rn) (a b : Nat) (hab : a < b) (hb : b ≤ l.length) (hl : l.length ≤ 1000000) (w : World) (bs : List Nat) (hs : Sep [ownL 21 sv.v l] w bs) (hn : bs.Nodup) (hlt : ∀ b ∈ bs, b < w.heap.size) :
   Calls Tryz.prog 178 #[sv.v, .int .i64 a, .int .i64 b] w fun e w' => ∃ l' : List Rn, e = .returned (.tuple #[]) ∧ Mix l l' a b ∧ Cl w bs [ownL 21 sv.v l'] w' := by
 refine calls_cw (vs := [_, _, _]) Tryz.func178 rfl Tryz.ntmps178 rfl (Cl.start hs hn hlt) (zr (zm rfl (za rfl (nP (cw_seq (cw_region (zm rfl ?_)))))))
 refine zS rfl (q_sub rfl rfl rfl (by intro hc; omega)) ?_
 refine za rfl (nP (cw_block ?_))
 refine cw_loop (S := (Nat × Nat) × List Rn) (fun y => [(0, [], sv.v), (6, [], .int .i64 y.1.1), (7, [], .int .i64 y.1.2)]) (fun y => Cl w bs [ownL 21 sv.v y.2]) (fun y => a ≤ y.1.1 ∧ y.1.2 < b ∧ y.1.1 ≤ y.1.2 + 1 ∧ Mix l y.2 a b) (fun y => y.1.2 + 1 - y.1.1) ((a, b - 1), l) ⟨by simp, by simp only; omega, by simp only; omega, .refl _ _ _⟩ (by exact .cons rfl (.cons rfl (.cons' rfl (by congr 1; first | omega | (simp only; omega)) .nil))) (fun _ h => h) ?_
 rintro ⟨⟨i, j⟩, u⟩ ⟨hi, hj, hij, hm⟩
 dsimp only at hi hj hij hm ⊢
 have hul := hm.len
 refine cw_seq (zr (zm rfl (zm rfl (zS rfl (q_lss rfl rfl rfl) (nP ?_)))))
 refine cw_cond rfl (fun h => ?_) (fun h => ?_)
 · have hlt : i < j := by simp at h; omega
   refine sP (cw_block (cw_seq (cw_region_a (Cl w bs [ownL 21 sv.v u]) [13, 14, 15] mixed_Tryz ?_)))
   refine zp 0 rfl (q_move rfl rfl) ?_
   refine zp 1 rfl (q_move rfl rfl) ?_
   refine zp 2 rfl (q_move rfl rfl) ?_
   refine zp 3 rfl (q_move rfl rfl) ?_
   refine zp 4 rfl (q_move rfl rfl) ?_
   refine zp 5 rfl (q_move rfl rfl) ?_
   refine zk 6 (Cl.sel (by exact .take 0 rfl (.nil _))) rfl (q_indexN rfl rfl rfl (rdO (by exact .head _)) (by intro hc; omega)) ?_
   refine zk 7 (Cl.sel (by exact .take 0 rfl (.nil _))) rfl (q_loadF rfl rfl rfl (rdO (by exact .head _)) (by intro hc; omega) rfl) ?_
   refine zp 8 rfl (q_move rfl rfl) ?_
   refine zp 9 rfl (q_move rfl rfl) ?_
   refine zk 10 (Cl.sel (by exact .take 0 rfl (.nil _))) rfl (q_indexN rfl rfl rfl (rdO (by exact .head _)) (by intro hc; omega)) ?_
   refine zk 11 (Cl.sel (by exact .take 0 rfl (.nil _))) rfl (q_loadF rfl rfl rfl (rdO (by exact .head _)) (by intro hc; omega) rfl) ?_
   refine zk 12 (Cl.sel (by exact .take 0 rfl (.nil _))) rfl (q_indexN rfl rfl rfl (rdO (by exact .head _)) (by intro hc; omega)) ?_
   refine aw_one0 13 (by kernel_rfl) rfl rfl rfl (e_storeEl1 (i := 0) rfl rfl rfl rfl rfl (by omega)) (by intro hb; (exact absurd hb (by decide))) ?_
   refine aw_q 14 (by kernel_rfl) rfl rfl rfl rfl (OpR.q (q_indexN rfl rfl rfl (rdO (by exact .head _)) (by intro hc; (simp only [List.length_set, List.length_append, List.length_cons, List.length_nil, List.length_replicate, List.length_take, List.length_drop, List.length_map]; omega)))) (by intro hb; (exact absurd hb (by decide))) ?_
   refine aw_one0 15 (by kernel_rfl) rfl rfl rfl (e_storeEl1 (i := 0) rfl rfl rfl rfl rfl (by (simp only [List.length_set, List.length_append, List.length_cons, List.length_nil, List.length_replicate, List.length_take, List.length_drop, List.length_map]; omega))) (by intro hb; (exact absurd hb (by decide))) ?_
   refine aw_end (by kernel_rfl) ?_
   refine post_then (zr (zm rfl ?_))
   refine zS rfl (q_add rfl rfl rfl (by intro hc; omega)) ?_
   refine za rfl (nP (cw_region (zm rfl ?_)))
   refine zS rfl (q_sub rfl rfl rfl (by intro hc; omega)) ?_
   refine za rfl (sw_nil (post_blk ?_))
   exact post_next ((i + 1, j - 1), swp u i j) (by exact .cons rfl (.cons rfl (.cons' rfl (by congr 1; first | omega | (simp only; omega)) .nil))) (fun w3 hw3 => hw3) ⟨by simp only; omega, by simp only; omega, by simp only; omega, hm.swp (by omega) (by omega) hb⟩ (by simp only; omega)
 · refine cw_exit (post_then_x (post_then_x (post_blk_eq (post_end0 rfl ?_))))
   exact fun w' hw => ⟨u, rfl, hm, hw⟩
structure PeI (l u : List Rn) (a b : Nat) (pv : Int) (i j : Nat) : Prop where
 ai : a < i
 ij : i ≤ j + 1
 jb : j < b
 mix : Mix l u a b
 mn : ∀ q, a ≤ q → q < b → pv ≤ (nth u q).v
 lo : ∀ q, a ≤ q → q < i → (nth u q).v = pv
 hi : ∀ q, j < q → q < b → pv < (nth u q).v
theorem PeI.i1 {l u : List Rn} {a b : Nat} {pv : Int} {i j : Nat} (h : PeI l u a b pv i j) (hij : i ≤ j) (hc : ¬ pv < (nth u i).v) : PeI l u a b pv (i + 1) j :=
 ⟨by have := h.ai; omega, by omega, h.jb, h.mix, h.mn, fun q h1 h2 => by
   rcases Nat.lt_or_ge q i with h3 | h3
   · exact h.lo q h1 h3
   · have : q = i := by omega
     subst this
     have := h.mn q h1 (by have := h.jb; omega)
     omega, h.hi⟩
theorem PeI.j1 {l u : List Rn} {a b : Nat} {pv : Int} {i j : Nat} (h : PeI l u a b pv i j) (hij : i ≤ j) (hc : pv < (nth u j).v) : PeI l u a b pv i (j - 1) :=
 ⟨h.ai, by have := h.ai; omega, by have := h.jb; omega, h.mix, h.mn, h.lo, fun q h1 h2 => by
   rcases Nat.lt_or_ge j q with h3 | h3
   · exact h.hi q h3 h2
   · have : q = j := by have := h.ai; omega
     subst this; exact hc⟩
theorem PeI.sw {l u : List Rn} {a b : Nat} {pv : Int} {i j : Nat} (h : PeI l u a b pv i j) (hb : b ≤ l.length) (hij : i ≤ j) (hi : pv < (nth u i).v) (hj : ¬ pv < (nth u j).v) : i < j ∧ PeI l (swp u i j) a b pv (i + 1) (j - 1) := by
 have h1 := h.ai
 have h2 := h.jb
 have hul := h.mix.len
 have hne : i ≠ j := fun e => by subst e; exact hj hi
 have hje : (nth u j).v = pv := by have := h.mn j (by omega) (by omega); omega
 have hsn := fun q => swp_nth (l := u) (i := i) (j := j) (by omega) (by omega) q
 refine ⟨by omega, by omega, by omega, by omega, h.mix.swp (by omega) (by omega) hb, fun q g1 g2 => ?_, fun q g1 g2 => ?_, fun q g1 g2 => ?_⟩
 · rw [hsn]
   split
   · exact h.mn i (by omega) (by omega)
   · split
     · exact h.mn j (by omega) (by omega)
     · exact h.mn q g1 g2
 · rw [hsn, if_neg (by omega)]
   split
   · exact hje
   · exact h.lo q g1 (by omega)
 · rw [hsn]
   split
   · exact hi
   · rw [if_neg (by omega)]; exact h.hi q (by omega) g2
theorem partEq_spec (sv : SlV) (l : List Rn) (a b p : Nat) (hap : a ≤ p) (hpb : p < b) (hb : b ≤ l.length) (hl : l.length ≤ 1000000) (hmin : ∀ q, a ≤ q → q < b → (nth l p).v ≤ (nth l q).v) (w : World) (bs : List Nat) (hs : Sep [ownL 21 sv.v l] w bs) (hn : bs.Nodup) (hlt : ∀ b ∈ bs, b < w.heap.size) :
   Calls Tryz.prog 181 #[sv.v, .int .i64 a, .int .i64 b, .int .i64 p] w fun e w' => ∃ y : Nat × List Rn, e = .returned (.int .i64 y.1) ∧ (a < y.1 ∧ y.1 ≤ b ∧ Mix l y.2 a b ∧ (∀ q, a ≤ q → q < y.1 → (nth y.2 q).v = (nth l p).v) ∧ ∀ q, y.1 ≤ q → q < b → (nth l p).v < (nth y.2 q).v) ∧ Cl w bs [ownL 21 sv.v y.2] w' := by
 obtain ⟨pv, hpv⟩ : ∃ pv, (nth l p).v = pv := ⟨_, rfl⟩
 rw [hpv] at hmin ⊢
 refine calls_cw (vs := [_, _, _, _]) Tryz.func181 rfl Tryz.ntmps181 rfl (Cl.start hs hn hlt) (zr (za rfl (nP (cw_seq (cw_region_a (Cl w bs [ownL 21 sv.v l]) [13, 14, 15] mixed_Tryz ?_)))))
 refine zp 0 rfl (q_move rfl rfl) ?_
 refine zp 1 rfl (q_move rfl rfl) ?_
 refine zp 2 rfl (q_move rfl rfl) ?_
 refine zp 3 rfl (q_move rfl rfl) ?_
 refine zp 4 rfl (q_move rfl rfl) ?_
 refine zp 5 rfl (q_move rfl rfl) ?_
 refine zk 6 (Cl.sel (by exact .take 0 rfl (.nil _))) rfl (q_indexN rfl rfl rfl (rdO (by exact .head _)) (by intro hc; omega)) ?_
 refine zk 7 (Cl.sel (by exact .take 0 rfl (.nil _))) rfl (q_loadF rfl rfl rfl (rdO (by exact .head _)) (by intro hc; omega) rfl) ?_
 refine zp 8 rfl (q_move rfl rfl) ?_
 refine zp 9 rfl (q_move rfl rfl) ?_
 refine zk 10 (Cl.sel (by exact .take 0 rfl (.nil _))) rfl (q_indexN rfl rfl rfl (rdO (by exact .head _)) (by intro hc; omega)) ?_
 refine zk 11 (Cl.sel (by exact .take 0 rfl (.nil _))) rfl (q_loadF rfl rfl rfl (rdO (by exact .head _)) (by intro hc; omega) rfl) ?_
 refine zk 12 (Cl.sel (by exact .take 0 rfl (.nil _))) rfl (q_indexN rfl rfl rfl (rdO (by exact .head _)) (by intro hc; omega)) ?_
 refine aw_one0 13 (by kernel_rfl) rfl rfl rfl (e_storeEl1 (i := 0) rfl rfl rfl rfl rfl (by omega)) (by intro hb; (exact absurd hb (by decide))) ?_
 refine aw_q 14 (by kernel_rfl) rfl rfl rfl rfl (OpR.q (q_indexN rfl rfl rfl (rdO (by exact .head _)) (by intro hc; (simp only [List.length_set, List.length_append, List.length_cons, List.length_nil, List.length_replicate, List.length_take, List.length_drop, List.length_map]; omega)))) (by intro hb; (exact absurd hb (by decide))) ?_
 refine aw_one0 15 (by kernel_rfl) rfl rfl rfl (e_storeEl1 (i := 0) rfl rfl rfl rfl rfl (by (simp only [List.length_set, List.length_append, List.length_cons, List.length_nil, List.length_replicate, List.length_take, List.length_drop, List.length_map]; omega))) (by intro hb; (exact absurd hb (by decide))) ?_
 refine aw_end (by kernel_rfl) ?_
 refine post_then (zr (zm rfl ?_))
 refine zS rfl (q_add rfl rfl rfl (by intro hc; omega)) ?_
 refine zm rfl ?_
 refine zS rfl (q_sub rfl rfl rfl (by intro hc; omega)) ?_
 refine za rfl (za rfl (nP (cw_seq (cw_block ?_))))
 have hsn := fun q => swp_nth (l := l) (i := a) (j := p) (by omega) (by omega) q
 have hst : PeI l (swp l a p) a b pv (a + 1) (b - 1) := by
   refine ⟨by omega, by omega, by omega, (Mix.refl l a b).swp (by omega) (by omega) hb, fun q g1 g2 => ?_, fun q g1 g2 => ?_, fun q g1 g2 => by omega⟩
   · rw [hsn]
     split
     · exact hmin a (by omega) (by omega)
     · split
       · omega
       · exact hmin q g1 g2
   · have : q = a := by omega
     subst this
     rw [hsn]
     split
     · rename_i e; rw [e, hpv]
     · rw [if_pos rfl, hpv]
 refine cw_loop (S := (Nat × Nat) × List Rn) (fun y => [(0, [], sv.v), (1, [], .int .i64 a), (9, [], .int .i64 y.1.1), (10, [], .int .i64 y.1.2)]) (fun y => Cl w bs [ownL 21 sv.v y.2]) (fun y => PeI l y.2 a b pv y.1.1 y.1.2) (fun y => y.1.2 + 1 - y.1.1) ((a + 1, b - 1), swp l a p) hst (by exact .cons rfl (.cons rfl (.cons rfl (.cons' rfl (by congr 1; first | omega | (simp only; omega)) .nil)))) (fun _ h => h) ?_
 rintro ⟨⟨i0, j0⟩, u⟩ hI0
 dsimp only at hI0 ⊢
 have hul := hI0.mix.len
 have hau : (nth u a).v = pv := hI0.lo a (Nat.le_refl _) hI0.ai
 refine cw_block (cw_seq (cw_block ?_))
 refine cw_loop (S := Nat) (fun i => [(0, [], sv.v), (1, [], .int .i64 a), (9, [], .int .i64 i), (10, [], .int .i64 j0)]) (fun _ => Cl w bs [ownL 21 sv.v u]) (fun i => i0 ≤ i ∧ PeI l u a b pv i j0) (fun i => j0 + 1 - i) i0 ⟨Nat.le_refl _, hI0⟩ (by exact .cons rfl (.cons rfl (.cons rfl (.cons rfl .nil)))) (fun _ h => h) ?_
 rintro i ⟨hii, hI⟩
 have hI1 := hI.ai
 have hI2 := hI.jb
 have hI3 := hI.ij
 refine cw_seq (cw_seq ?_)
 refine cw_region_q mixed_Tryz (by kernel_rfl) ?_
 refine zw rfl (zw rfl (zq rfl (q_leq rfl rfl rfl) (zw rfl (zw rfl (zw rfl ?_)))))
 refine zq rfl (q_indexN rfl rfl rfl (rdO (by exact .head _)) (by intro hc; omega)) ?_
 refine zq rfl (q_loadF rfl rfl rfl (rdO (by exact .head _)) (by intro hc; omega) rfl) ?_
 refine zw rfl (zw rfl ?_)
 refine zq rfl (q_indexN rfl rfl rfl (rdO (by exact .head _)) (by intro hc; (simp only [AllT.iff, List.all_cons, List.all_nil, id, Bool.and_eq_true, Bool.not_eq_true', decide_eq_true_eq, decide_eq_false_iff_not, and_true] at hc; omega))) ?_
 refine zq rfl (q_loadF rfl rfl rfl (rdO (by exact .head _)) (by intro hc; (simp only [AllT.iff, List.all_cons, List.all_nil, id, Bool.and_eq_true, Bool.not_eq_true', decide_eq_true_eq, decide_eq_false_iff_not, and_true] at hc; omega)) rfl) ?_
 refine qw_step rfl rfl rfl (q_call (CanCall.mk Tryz.call180) rfl (.k rfl (.k rfl (.nil))) (fun _ w hw => callq hw (cmpLessR_spec _ _ w))) (zq rfl (q_not rfl rfl) (zq rfl (q_and2 rfl rfl rfl) (qw_end (post_then ?_))))
 refine cw_cond rfl (fun h => ?_) (fun h => ?_)
 · have h1 : i ≤ j0 ∧ ¬ pv < (nth u i).v := by
     rw [hau] at h
     simp at h; omega
   refine sP (cw_block (cw_region (zm rfl ?_)))
   refine zS rfl (q_add rfl rfl rfl (by intro hc; omega)) ?_
   refine za rfl (sw_nil (post_blk ?_))
   exact post_next (i + 1) (by exact .cons rfl (.cons rfl (.cons rfl (.cons rfl .nil)))) (fun _ h => h) ⟨by omega, hI.i1 h1.1 h1.2⟩ (by omega)
 · have h1 : i ≤ j0 → pv < (nth u i).v := fun hh => by
     rw [hau] at h
     simp at h; omega
   refine cw_exit (post_then_x (post_then_x (post_blk_eq (post_then (cw_seq (cw_block ?_))))))
   refine cw_loop (S := Nat) (fun j => [(0, [], sv.v), (1, [], .int .i64 a), (9, [], .int .i64 i), (10, [], .int .i64 j)]) (fun _ => Cl w bs [ownL 21 sv.v u]) (fun j => j ≤ j0 ∧ PeI l u a b pv i j) (fun j => j) j0 ⟨Nat.le_refl _, hI⟩ (by exact .cons rfl (.cons rfl (.cons rfl (.cons rfl .nil)))) (fun _ h => h) ?_
   rintro j ⟨hjj, hJ⟩
   have hJ2 := hJ.jb
   have hJ3 := hJ.ij
   refine cw_seq (cw_seq ?_)
   refine cw_region_q mixed_Tryz (by kernel_rfl) ?_
   refine zw rfl (zw rfl (zq rfl (q_leq rfl rfl rfl) (zw rfl (zw rfl (zw rfl ?_)))))
   refine zq rfl (q_indexN rfl rfl rfl (rdO (by exact .head _)) (by intro hc; omega)) ?_
   refine zq rfl (q_loadF rfl rfl rfl (rdO (by exact .head _)) (by intro hc; omega) rfl) ?_
   refine zw rfl (zw rfl ?_)
   refine zq rfl (q_indexN rfl rfl rfl (rdO (by exact .head _)) (by intro hc; omega)) ?_
   refine zq rfl (q_loadF rfl rfl rfl (rdO (by exact .head _)) (by intro hc; omega) rfl) ?_
   refine qw_step rfl rfl rfl (q_call (CanCall.mk Tryz.call180) rfl (.k rfl (.k rfl (.nil))) (fun _ w hw => callq hw (cmpLessR_spec _ _ w))) (zq rfl (q_and2 rfl rfl rfl) (qw_end (post_then ?_)))
   refine cw_cond rfl (fun h2 => ?_) (fun h2 => ?_)
   · have h3 : i ≤ j ∧ pv < (nth u j).v := by
       rw [hau] at h2
       simp at h2; omega
     refine sP (cw_block (cw_region (zm rfl ?_)))
     refine zS rfl (q_sub rfl rfl rfl (by intro hc; omega)) ?_
     refine za rfl (sw_nil (post_blk ?_))
     exact post_next (j - 1) (by exact .cons rfl (.cons rfl (.cons rfl (.cons' rfl (by congr 1; first | omega | (simp only; omega)) .nil)))) (fun _ h => h) ⟨by omega, hJ.j1 h3.1 h3.2⟩ (by omega)
   · have h3 : i ≤ j → ¬ pv < (nth u j).v := fun hh => by
       rw [hau] at h2
       simp at h2; omega
     refine cw_exit (post_then_x (post_then_x (post_blk_eq (post_then (cw_seq (zr (zm rfl (zm rfl (zS rfl (q_gtr rfl rfl rfl) (nP ?_))))))))))
     refine cw_cond rfl (fun h4 => ?_) (fun h4 => ?_)
     · have h5 : i = j + 1 := by simp at h4; omega
       refine cw_exit (post_then_x (post_blk_ne rfl (post_then_x (post_blk_eq (post_then (zr (zm rfl (za rfl (nP (cw_ret (post_ret1 rfl (resOk_tmp rfl) ?_)))))))))))
       exact fun w' hw => ⟨(i, u), rfl, ⟨hI1, by simp only; omega, hJ.mix, fun q g1 g2 => hJ.lo q g1 g2, fun q g1 g2 => hJ.hi q (by simp only at g1; omega) g2⟩, hw⟩
     · have h5 : i ≤ j := by simp at h4; omega
       obtain ⟨h6, h7⟩ := hJ.sw hb h5 (h1 (by omega)) (h3 h5)
       refine sP (cw_seq (cw_region_a (Cl w bs [ownL 21 sv.v u]) [13, 14, 15] mixed_Tryz ?_))
       refine zp 0 rfl (q_move rfl rfl) ?_
       refine zp 1 rfl (q_move rfl rfl) ?_
       refine zp 2 rfl (q_move rfl rfl) ?_
       refine zp 3 rfl (q_move rfl rfl) ?_
       refine zp 4 rfl (q_move rfl rfl) ?_
       refine zp 5 rfl (q_move rfl rfl) ?_
       refine zk 6 (Cl.sel (by exact .take 0 rfl (.nil _))) rfl (q_indexN rfl rfl rfl (rdO (by exact .head _)) (by intro hc; omega)) ?_
       refine zk 7 (Cl.sel (by exact .take 0 rfl (.nil _))) rfl (q_loadF rfl rfl rfl (rdO (by exact .head _)) (by intro hc; omega) rfl) ?_
       refine zp 8 rfl (q_move rfl rfl) ?_
       refine zp 9 rfl (q_move rfl rfl) ?_
       refine zk 10 (Cl.sel (by exact .take 0 rfl (.nil _))) rfl (q_indexN rfl rfl rfl (rdO (by exact .head _)) (by intro hc; omega)) ?_
       refine zk 11 (Cl.sel (by exact .take 0 rfl (.nil _))) rfl (q_loadF rfl rfl rfl (rdO (by exact .head _)) (by intro hc; omega) rfl) ?_
       refine zk 12 (Cl.sel (by exact .take 0 rfl (.nil _))) rfl (q_indexN rfl rfl rfl (rdO (by exact .head _)) (by intro hc; omega)) ?_
       refine aw_one0 13 (by kernel_rfl) rfl rfl rfl (e_storeEl1 (i := 0) rfl rfl rfl rfl rfl (by omega)) (by intro hb; (exact absurd hb (by decide))) ?_
       refine aw_q 14 (by kernel_rfl) rfl rfl rfl rfl (OpR.q (q_indexN rfl rfl rfl (rdO (by exact .head _)) (by intro hc; (simp only [List.length_set, List.length_append, List.length_cons, List.length_nil, List.length_replicate, List.length_take, List.length_drop, List.length_map]; omega)))) (by intro hb; (exact absurd hb (by decide))) ?_
       refine aw_one0 15 (by kernel_rfl) rfl rfl rfl (e_storeEl1 (i := 0) rfl rfl rfl rfl rfl (by (simp only [List.length_set, List.length_append, List.length_cons, List.length_nil, List.length_replicate, List.length_take, List.length_drop, List.length_map]; omega))) (by intro hb; (exact absurd hb (by decide))) ?_
       refine aw_end (by kernel_rfl) ?_
       refine post_then (zr (zm rfl ?_))
       refine zS rfl (q_add rfl rfl rfl (by intro hc; omega)) ?_
       refine za rfl (nP (cw_region (zm rfl ?_)))
       refine zS rfl (q_sub rfl rfl rfl (by intro hc; omega)) ?_
       refine za rfl (sw_nil (post_blk ?_))
       exact post_next ((i + 1, j - 1), swp u i j) (by exact .cons rfl (.cons rfl (.cons rfl (.cons' rfl (by congr 1; first | omega | (simp only; omega)) .nil)))) (fun w3 hw3 => hw3) h7 (by simp only; omega)
structure PaI (l u : List Rn) (a b : Nat) (pv : Int) (i j : Nat) : Prop where
 ai : a < i
 ij : i ≤ j + 1
 jb : j < b
 mix : Mix l u a b
 pa : (nth u a).v = pv
 lo : ∀ q, a < q → q < i → (nth u q).v < pv
 hi : ∀ q, j < q → q < b → pv ≤ (nth u q).v
theorem PaI.i1 {l u : List Rn} {a b : Nat} {pv : Int} {i j : Nat} (h : PaI l u a b pv i j) (hij : i ≤ j) (hc : (nth u i).v < pv) : PaI l u a b pv (i + 1) j :=
 ⟨by have := h.ai; omega, by omega, h.jb, h.mix, h.pa, fun q h1 h2 => by
   rcases Nat.lt_or_ge q i with h3 | h3
   · exact h.lo q h1 h3
   · have : q = i := by omega
     subst this; exact hc, h.hi⟩
theorem PaI.j1 {l u : List Rn} {a b : Nat} {pv : Int} {i j : Nat} (h : PaI l u a b pv i j) (hij : i ≤ j) (hc : ¬ (nth u j).v < pv) : PaI l u a b pv i (j - 1) :=
 ⟨h.ai, by have := h.ai; omega, by have := h.jb; omega, h.mix, h.pa, h.lo, fun q h1 h2 => by
   rcases Nat.lt_or_ge j q with h3 | h3
   · exact h.hi q h3 h2
   · have : q = j := by have := h.ai; omega
     subst this; omega⟩
theorem PaI.sw {l u : List Rn} {a b : Nat} {pv : Int} {i j : Nat} (h : PaI l u a b pv i j) (hb : b ≤ l.length) (hij : i ≤ j) (hi : ¬ (nth u i).v < pv) (hj : (nth u j).v < pv) : i < j ∧ PaI l (swp u i j) a b pv (i + 1) (j - 1) := by
 have h1 := h.ai
 have h2 := h.jb
 have hul := h.mix.len
 have hne : i ≠ j := fun e => by subst e; exact hi hj
 have hsn := fun q => swp_nth (l := u) (i := i) (j := j) (by omega) (by omega) q
 refine ⟨by omega, by omega, by omega, by omega, h.mix.swp (by omega) (by omega) hb, ?_, fun q g1 g2 => ?_, fun q g1 g2 => ?_⟩
 · rw [hsn, if_neg (by omega), if_neg (by omega)]; exact h.pa
 · rw [hsn, if_neg (by omega)]
   split
   · exact hj
   · exact h.lo q g1 (by omega)
 · rw [hsn]
   split
   · omega
   · rw [if_neg (by omega)]; exact h.hi q (by omega) g2
structure Parted (l u : List Rn) (a b m : Nat) : Prop where
 am : a ≤ m
 mb : m < b
 mix : Mix l u a b
 lo : ∀ q, a ≤ q → q < m → (nth u q).v ≤ (nth u m).v
 hi : ∀ q, m < q → q < b → (nth u m).v ≤ (nth u q).v
theorem PaI.fin {l u : List Rn} {a b : Nat} {pv : Int} {i j : Nat} (h : PaI l u a b pv i j) (hb : b ≤ l.length) (hij : i = j + 1) : Parted l (swp u j a) a b j := by
 have h1 := h.ai
 have h2 := h.jb
 have hul := h.mix.len
 have hsn := fun q => swp_nth (l := u) (i := j) (j := a) (by omega) (by omega) q
 have hm : (nth (swp u j a) j).v = pv := by
   rw [hsn]
   split
   · rename_i e; rw [e]; exact h.pa
   · rw [if_pos rfl]; exact h.pa
 refine ⟨by omega, h2, h.mix.swp (by omega) (by omega) hb, fun q g1 g2 => ?_, fun q g1 g2 => ?_⟩
 · rw [hm, hsn]
   split
   · have := h.lo j (by omega) (by omega); omega
   · rw [if_neg (by omega)]
     have := h.lo q (by omega) (by omega); omega
 · rw [hm, hsn, if_neg (by omega), if_neg (by omega)]
   exact h.hi q g1 g2
theorem partition_spec (sv : SlV) (l : List Rn) (a b p : Nat) (hap : a ≤ p) (hpb : p < b) (hb : b ≤ l.length) (hl : l.length ≤ 1000000) (w : World) (bs : List Nat) (hs : Sep [ownL 21 sv.v l] w bs) (hn : bs.Nodup) (hlt : ∀ b ∈ bs, b < w.heap.size) :
   Calls Tryz.prog 182 #[sv.v, .int .i64 a, .int .i64 b, .int .i64 p] w fun e w' => ∃ y : (Nat × Bool) × List Rn, e = .returned (.tuple #[.int .i64 y.1.1, .bool y.1.2]) ∧ Parted l y.2 a b y.1.1 ∧ Cl w bs [ownL 21 sv.v y.2] w' := by
 obtain ⟨pv, hpv⟩ : ∃ pv, (nth l p).v = pv := ⟨_, rfl⟩
 refine calls_cw (vs := [_, _, _, _]) Tryz.func182 rfl Tryz.ntmps182 rfl (Cl.start hs hn hlt) (zr (za rfl (za rfl (nP (cw_seq (cw_region_a (Cl w bs [ownL 21 sv.v l]) [13, 14, 15] mixed_Tryz ?_))))))
 refine zp 0 rfl (q_move rfl rfl) ?_
 refine zp 1 rfl (q_move rfl rfl) ?_
 refine zp 2 rfl (q_move rfl rfl) ?_
 refine zp 3 rfl (q_move rfl rfl) ?_
 refine zp 4 rfl (q_move rfl rfl) ?_
 refine zp 5 rfl (q_move rfl rfl) ?_
 refine zk 6 (Cl.sel (by exact .take 0 rfl (.nil _))) rfl (q_indexN rfl rfl rfl (rdO (by exact .head _)) (by intro hc; omega)) ?_
 refine zk 7 (Cl.sel (by exact .take 0 rfl (.nil _))) rfl (q_loadF rfl rfl rfl (rdO (by exact .head _)) (by intro hc; omega) rfl) ?_
 refine zp 8 rfl (q_move rfl rfl) ?_
 refine zp 9 rfl (q_move rfl rfl) ?_
 refine zk 10 (Cl.sel (by exact .take 0 rfl (.nil _))) rfl (q_indexN rfl rfl rfl (rdO (by exact .head _)) (by intro hc; omega)) ?_
 refine zk 11 (Cl.sel (by exact .take 0 rfl (.nil _))) rfl (q_loadF rfl rfl rfl (rdO (by exact .head _)) (by intro hc; omega) rfl) ?_
 refine zk 12 (Cl.sel (by exact .take 0 rfl (.nil _))) rfl (q_indexN rfl rfl rfl (rdO (by exact .head _)) (by intro hc; omega)) ?_
 refine aw_one0 13 (by kernel_rfl) rfl rfl rfl (e_storeEl1 (i := 0) rfl rfl rfl rfl rfl (by omega)) (by intro hb; (exact absurd hb (by decide))) ?_
 refine aw_q 14 (by kernel_rfl) rfl rfl rfl rfl (OpR.q (q_indexN rfl rfl rfl (rdO (by exact .head _)) (by intro hc; (simp only [List.length_set, List.length_append, List.length_cons, List.length_nil, List.length_replicate, List.length_take, List.length_drop, List.length_map]; omega)))) (by intro hb; (exact absurd hb (by decide))) ?_
 refine aw_one0 15 (by kernel_rfl) rfl rfl rfl (e_storeEl1 (i := 0) rfl rfl rfl rfl rfl (by (simp only [List.length_set, List.length_append, List.length_cons, List.length_nil, List.length_replicate, List.length_take, List.length_drop, List.length_map]; omega))) (by intro hb; (exact absurd hb (by decide))) ?_
 refine aw_end (by kernel_rfl) ?_
 refine post_then (zr (zm rfl ?_))
 refine zS rfl (q_add rfl rfl rfl (by intro hc; omega)) ?_
 refine zm rfl ?_
 refine zS rfl (q_sub rfl rfl rfl (by intro hc; omega)) ?_
 refine za rfl (za rfl (nP (cw_seq (cw_block ?_))))
 have hsn := fun q => swp_nth (l := l) (i := a) (j := p) (by omega) (by omega) q
 have hst : PaI l (swp l a p) a b pv (a + 1) (b - 1) := by
   refine ⟨by omega, by omega, by omega, (Mix.refl l a b).swp (by omega) (by omega) hb, ?_, fun q g1 g2 => by omega, fun q g1 g2 => by omega⟩
   rw [hsn]
   split
   · rename_i e; rw [e, hpv]
   · rw [if_pos rfl, hpv]
 obtain ⟨u, hu⟩ : ∃ u, swp l a p = u := ⟨_, rfl⟩
 rw [hu] at hst
 have hul := hst.mix.len
 have hau := hst.pa
 refine cw_loop (S := Nat) (fun i => [(0, [], sv.v), (1, [], .int .i64 a), (10, [], .int .i64 i), (11, [], .int .i64 ((b - 1 : Nat) : Int))]) (fun _ => Cl w bs [ownL 21 sv.v u]) (fun i => PaI l u a b pv i (b - 1)) (fun i => b - i) (a + 1) hst (by exact .cons rfl (.cons rfl (.cons rfl (.cons' rfl (by congr 1; first | omega | (simp only; omega)) .nil)))) (fun _ h => by rw [← hu]; exact h) ?_
 rintro i hI
 have hI1 := hI.ai
 have hI3 := hI.ij
 refine cw_seq (cw_seq ?_)
 refine cw_region_q mixed_Tryz (by kernel_rfl) ?_
 refine zw rfl (zw rfl (zq rfl (q_leq rfl rfl rfl) (zw rfl (zw rfl (zw rfl ?_)))))
 refine zq rfl (q_indexN rfl rfl rfl (rdO (by exact .head _)) (by intro hc; (simp only [AllT.iff, List.all_cons, List.all_nil, id, Bool.and_eq_true, Bool.not_eq_true', decide_eq_true_eq, decide_eq_false_iff_not, and_true] at hc; omega))) ?_
 refine zq rfl (q_loadF rfl rfl rfl (rdO (by exact .head _)) (by intro hc; (simp only [AllT.iff, List.all_cons, List.all_nil, id, Bool.and_eq_true, Bool.not_eq_true', decide_eq_true_eq, decide_eq_false_iff_not, and_true] at hc; omega)) rfl) ?_
 refine zw rfl (zw rfl ?_)
 refine zq rfl (q_indexN rfl rfl rfl (rdO (by exact .head _)) (by intro hc; omega)) ?_
 refine zq rfl (q_loadF rfl rfl rfl (rdO (by exact .head _)) (by intro hc; omega) rfl) ?_
 refine qw_step rfl rfl rfl (q_call (CanCall.mk Tryz.call180) rfl (.k rfl (.k rfl (.nil))) (fun _ w hw => callq hw (cmpLessR_spec _ _ w))) (zq rfl (q_and2 rfl rfl rfl) (qw_end (post_then ?_)))
 refine cw_cond rfl (fun h => ?_) (fun h => ?_)
 · have h1 : i ≤ b - 1 ∧ (nth u i).v < pv := by
     rw [hau] at h
     simp at h; omega
   refine sP (cw_block (cw_region (zm rfl ?_)))
   refine zS rfl (q_add rfl rfl rfl (by intro hc; omega)) ?_
   refine za rfl (sw_nil (post_blk ?_))
   exact post_next (i + 1) (by exact .cons rfl (.cons rfl (.cons rfl (.cons rfl .nil)))) (fun _ h => h) (hI.i1 h1.1 h1.2) (by omega)
 · have h1 : i ≤ b - 1 → ¬ (nth u i).v < pv := fun hh => by
     rw [hau] at h
     simp at h; omega
   refine cw_exit (post_then_x (post_then_x (post_blk_eq (post_then (cw_seq (cw_block ?_))))))
   refine cw_loop (S := Nat) (fun j => [(0, [], sv.v), (1, [], .int .i64 a), (10, [], .int .i64 i), (11, [], .int .i64 j)]) (fun _ => Cl w bs [ownL 21 sv.v u]) (fun j => j ≤ b - 1 ∧ PaI l u a b pv i j) (fun j => j) (b - 1) ⟨Nat.le_refl _, hI⟩ (by exact .cons rfl (.cons rfl (.cons rfl (.cons rfl .nil)))) (fun _ h => h) ?_
   rintro j ⟨hjj, hJ⟩
   have hJ2 := hJ.jb
   have hJ3 := hJ.ij
   refine cw_seq (cw_seq ?_)
   refine cw_region_q mixed_Tryz (by kernel_rfl) ?_
   refine zw rfl (zw rfl (zq rfl (q_leq rfl rfl rfl) (zw rfl (zw rfl (zw rfl ?_)))))
   refine zq rfl (q_indexN rfl rfl rfl (rdO (by exact .head _)) (by intro hc; omega)) ?_
   refine zq rfl (q_loadF rfl rfl rfl (rdO (by exact .head _)) (by intro hc; omega) rfl) ?_
   refine zw rfl (zw rfl ?_)
   refine zq rfl (q_indexN rfl rfl rfl (rdO (by exact .head _)) (by intro hc; omega)) ?_
   refine zq rfl (q_loadF rfl rfl rfl (rdO (by exact .head _)) (by intro hc; omega) rfl) ?_
   refine qw_step rfl rfl rfl (q_call (CanCall.mk Tryz.call180) rfl (.k rfl (.k rfl (.nil))) (fun _ w hw => callq hw (cmpLessR_spec _ _ w))) (zq rfl (q_not rfl rfl) (zq rfl (q_and2 rfl rfl rfl) (qw_end (post_then ?_))))
   refine cw_cond rfl (fun h2 => ?_) (fun h2 => ?_)
   · have h3 : i ≤ j ∧ ¬ (nth u j).v < pv := by
       rw [hau] at h2
       simp at h2; omega
     refine sP (cw_block (cw_region (zm rfl ?_)))
     refine zS rfl (q_sub rfl rfl rfl (by intro hc; omega)) ?_
     refine za rfl (sw_nil (post_blk ?_))
     exact post_next (j - 1) (by exact .cons rfl (.cons rfl (.cons rfl (.cons' rfl (by congr 1; first | omega | (simp only; omega)) .nil)))) (fun _ h => h) ⟨by omega, hJ.j1 h3.1 h3.2⟩ (by omega)
   · have h3 : i ≤ j → (nth u j).v < pv := fun hh => by
       rw [hau] at h2
       simp at h2; omega
     refine cw_exit (post_then_x (post_then_x (post_blk_eq (post_then (cw_seq (zr (zm rfl (zm rfl (zS rfl (q_gtr rfl rfl rfl) (nP ?_))))))))))
     refine cw_cond rfl (fun h4 => ?_) (fun h4 => ?_)
     · have h5 : i = j + 1 := by simp at h4; omega
       have hfin := hJ.fin hb h5
       refine cw_seq (cw_region_a (Cl w bs [ownL 21 sv.v u]) [13, 14, 15] mixed_Tryz ?_)
       refine zp 0 rfl (q_move rfl rfl) ?_
       refine zp 1 rfl (q_move rfl rfl) ?_
       refine zp 2 rfl (q_move rfl rfl) ?_
       refine zp 3 rfl (q_move rfl rfl) ?_
       refine zp 4 rfl (q_move rfl rfl) ?_
       refine zp 5 rfl (q_move rfl rfl) ?_
       refine zk 6 (Cl.sel (by exact .take 0 rfl (.nil _))) rfl (q_indexN rfl rfl rfl (rdO (by exact .head _)) (by intro hc; omega)) ?_
       refine zk 7 (Cl.sel (by exact .take 0 rfl (.nil _))) rfl (q_loadF rfl rfl rfl (rdO (by exact .head _)) (by intro hc; omega) rfl) ?_
       refine zp 8 rfl (q_move rfl rfl) ?_
       refine zp 9 rfl (q_move rfl rfl) ?_
       refine zk 10 (Cl.sel (by exact .take 0 rfl (.nil _))) rfl (q_indexN rfl rfl rfl (rdO (by exact .head _)) (by intro hc; omega)) ?_
       refine zk 11 (Cl.sel (by exact .take 0 rfl (.nil _))) rfl (q_loadF rfl rfl rfl (rdO (by exact .head _)) (by intro hc; omega) rfl) ?_
       refine zk 12 (Cl.sel (by exact .take 0 rfl (.nil _))) rfl (q_indexN rfl rfl rfl (rdO (by exact .head _)) (by intro hc; omega)) ?_
       refine aw_one0 13 (by kernel_rfl) rfl rfl rfl (e_storeEl1 (i := 0) rfl rfl rfl rfl rfl (by omega)) (by intro hb; (exact absurd hb (by decide))) ?_
       refine aw_q 14 (by kernel_rfl) rfl rfl rfl rfl (OpR.q (q_indexN rfl rfl rfl (rdO (by exact .head _)) (by intro hc; (simp only [List.length_set, List.length_append, List.length_cons, List.length_nil, List.length_replicate, List.length_take, List.length_drop, List.length_map]; omega)))) (by intro hb; (exact absurd hb (by decide))) ?_
       refine aw_one0 15 (by kernel_rfl) rfl rfl rfl (e_storeEl1 (i := 0) rfl rfl rfl rfl rfl (by (simp only [List.length_set, List.length_append, List.length_cons, List.length_nil, List.length_replicate, List.length_take, List.length_drop, List.length_map]; omega))) (by intro hb; (exact absurd hb (by decide))) ?_
       refine aw_end (by kernel_rfl) ?_
       refine post_then (zr (zm rfl (za rfl (za rfl (nP (cw_ret (post_then_r (post_ret2 rfl (resOk_tmp rfl) (resOk_tmp rfl) ?_))))))))
       exact fun w' hw => ⟨((j, true), swp u j a), rfl, hfin, hw⟩
     · have h5 : i ≤ j := by simp at h4; omega
       obtain ⟨h6, h7⟩ := hJ.sw hb h5 (h1 (by omega)) (h3 h5)
       refine sP (cw_seq (cw_region_a (Cl w bs [ownL 21 sv.v u]) [13, 14, 15] mixed_Tryz ?_))
       refine zp 0 rfl (q_move rfl rfl) ?_
       refine zp 1 rfl (q_move rfl rfl) ?_
       refine zp 2 rfl (q_move rfl rfl) ?_
       refine zp 3 rfl (q_move rfl rfl) ?_
       refine zp 4 rfl (q_move rfl rfl) ?_
       refine zp 5 rfl (q_move rfl rfl) ?_
       refine zk 6 (Cl.sel (by exact .take 0 rfl (.nil _))) rfl (q_indexN rfl rfl rfl (rdO (by exact .head _)) (by intro hc; omega)) ?_
       refine zk 7 (Cl.sel (by exact .take 0 rfl (.nil _))) rfl (q_loadF rfl rfl rfl (rdO (by exact .head _)) (by intro hc; omega) rfl) ?_
       refine zp 8 rfl (q_move rfl rfl) ?_
       refine zp 9 rfl (q_move rfl rfl) ?_
       refine zk 10 (Cl.sel (by exact .take 0 rfl (.nil _))) rfl (q_indexN rfl rfl rfl (rdO (by exact .head _)) (by intro hc; omega)) ?_
       refine zk 11 (Cl.sel (by exact .take 0 rfl (.nil _))) rfl (q_loadF rfl rfl rfl (rdO (by exact .head _)) (by intro hc; omega) rfl) ?_
       refine zk 12 (Cl.sel (by exact .take 0 rfl (.nil _))) rfl (q_indexN rfl rfl rfl (rdO (by exact .head _)) (by intro hc; omega)) ?_
       refine aw_one0 13 (by kernel_rfl) rfl rfl rfl (e_storeEl1 (i := 0) rfl rfl rfl rfl rfl (by omega)) (by intro hb; (exact absurd hb (by decide))) ?_
       refine aw_q 14 (by kernel_rfl) rfl rfl rfl rfl (OpR.q (q_indexN rfl rfl rfl (rdO (by exact .head _)) (by intro hc; (simp only [List.length_set, List.length_append, List.length_cons, List.length_nil, List.length_replicate, List.length_take, List.length_drop, List.length_map]; omega)))) (by intro hb; (exact absurd hb (by decide))) ?_
       refine aw_one0 15 (by kernel_rfl) rfl rfl rfl (e_storeEl1 (i := 0) rfl rfl rfl rfl rfl (by (simp only [List.length_set, List.length_append, List.length_cons, List.length_nil, List.length_replicate, List.length_take, List.length_drop, List.length_map]; omega))) (by intro hb; (exact absurd hb (by decide))) ?_
       refine aw_end (by kernel_rfl) ?_
       refine post_then (zr (zm rfl ?_))
       refine zS rfl (q_add rfl rfl rfl (by intro hc; omega)) ?_
       refine za rfl (nP (zr (zm rfl ?_)))
       refine zS rfl (q_sub rfl rfl rfl (by intro hc; omega)) ?_
       refine za rfl (nP (cw_seq (cw_block ?_)))
       refine cw_loop (S := (Nat × Nat) × List Rn) (fun y => [(0, [], sv.v), (1, [], .int .i64 a), (10, [], .int .i64 y.1.1), (11, [], .int .i64 y.1.2)]) (fun y => Cl w bs [ownL 21 sv.v y.2]) (fun y => PaI l y.2 a b pv y.1.1 y.1.2) (fun y => y.1.2 + 1 - y.1.1) ((i + 1, j - 1), swp u i j) h7 (by exact .cons rfl (.cons rfl (.cons rfl (.cons' rfl (by congr 1; first | omega | (simp only; omega)) .nil)))) (fun _ h => h) ?_
       rintro ⟨⟨i0, j0⟩, v⟩ hI0
       dsimp only at hI0 ⊢
       have hvl := hI0.mix.len
       have hav := hI0.pa
       refine cw_block (cw_seq (cw_block ?_))
       refine cw_loop (S := Nat) (fun i => [(0, [], sv.v), (1, [], .int .i64 a), (10, [], .int .i64 i), (11, [], .int .i64 j0)]) (fun _ => Cl w bs [ownL 21 sv.v v]) (fun i => i0 ≤ i ∧ PaI l v a b pv i j0) (fun i => j0 + 1 - i) i0 ⟨Nat.le_refl _, hI0⟩ (by exact .cons rfl (.cons rfl (.cons rfl (.cons rfl .nil)))) (fun _ h => h) ?_
       rintro i ⟨hii, hI⟩
       have hI1 := hI.ai
       have hI2 := hI.jb
       have hI3 := hI.ij
       refine cw_seq (cw_seq ?_)
       refine cw_region_q mixed_Tryz (by kernel_rfl) ?_
       refine zw rfl (zw rfl (zq rfl (q_leq rfl rfl rfl) (zw rfl (zw rfl (zw rfl ?_)))))
       refine zq rfl (q_indexN rfl rfl rfl (rdO (by exact .head _)) (by intro hc; (simp only [AllT.iff, List.all_cons, List.all_nil, id, Bool.and_eq_true, Bool.not_eq_true', decide_eq_true_eq, decide_eq_false_iff_not, and_true] at hc; omega))) ?_
       refine zq rfl (q_loadF rfl rfl rfl (rdO (by exact .head _)) (by intro hc; (simp only [AllT.iff, List.all_cons, List.all_nil, id, Bool.and_eq_true, Bool.not_eq_true', decide_eq_true_eq, decide_eq_false_iff_not, and_true] at hc; omega)) rfl) ?_
       refine zw rfl (zw rfl ?_)
       refine zq rfl (q_indexN rfl rfl rfl (rdO (by exact .head _)) (by intro hc; omega)) ?_
       refine zq rfl (q_loadF rfl rfl rfl (rdO (by exact .head _)) (by intro hc; omega) rfl) ?_
       refine qw_step rfl rfl rfl (q_call (CanCall.mk Tryz.call180) rfl (.k rfl (.k rfl (.nil))) (fun _ w hw => callq hw (cmpLessR_spec _ _ w))) (zq rfl (q_and2 rfl rfl rfl) (qw_end (post_then ?_)))
       refine cw_cond rfl (fun h8 => ?_) (fun h8 => ?_)
       · have h9 : i ≤ j0 ∧ (nth v i).v < pv := by
           rw [hav] at h8
           simp at h8; omega
         refine sP (cw_block (cw_region (zm rfl ?_)))
         refine zS rfl (q_add rfl rfl rfl (by intro hc; omega)) ?_
         refine za rfl (sw_nil (post_blk ?_))
         exact post_next (i + 1) (by exact .cons rfl (.cons rfl (.cons rfl (.cons rfl .nil)))) (fun _ h => h) ⟨by omega, hI.i1 h9.1 h9.2⟩ (by omega)
       · have h9 : i ≤ j0 → ¬ (nth v i).v < pv := fun hh => by
           rw [hav] at h8
           simp at h8; omega
         refine cw_exit (post_then_x (post_then_x (post_blk_eq (post_then (cw_seq (cw_block ?_))))))
         refine cw_loop (S := Nat) (fun j => [(0, [], sv.v), (1, [], .int .i64 a), (10, [], .int .i64 i), (11, [], .int .i64 j)]) (fun _ => Cl w bs [ownL 21 sv.v v]) (fun j => j ≤ j0 ∧ PaI l v a b pv i j) (fun j => j) j0 ⟨Nat.le_refl _, hI⟩ (by exact .cons rfl (.cons rfl (.cons rfl (.cons rfl .nil)))) (fun _ h => h) ?_
         rintro j ⟨hjj, hJ⟩
         have hJ2 := hJ.jb
         have hJ3 := hJ.ij
         refine cw_seq (cw_seq ?_)
         refine cw_region_q mixed_Tryz (by kernel_rfl) ?_
         refine zw rfl (zw rfl (zq rfl (q_leq rfl rfl rfl) (zw rfl (zw rfl (zw rfl ?_)))))
         refine zq rfl (q_indexN rfl rfl rfl (rdO (by exact .head _)) (by intro hc; omega)) ?_
         refine zq rfl (q_loadF rfl rfl rfl (rdO (by exact .head _)) (by intro hc; omega) rfl) ?_
         refine zw rfl (zw rfl ?_)
         refine zq rfl (q_indexN rfl rfl rfl (rdO (by exact .head _)) (by intro hc; omega)) ?_
         refine zq rfl (q_loadF rfl rfl rfl (rdO (by exact .head _)) (by intro hc; omega) rfl) ?_
         refine qw_step rfl rfl rfl (q_call (CanCall.mk Tryz.call180) rfl (.k rfl (.k rfl (.nil))) (fun _ w hw => callq hw (cmpLessR_spec _ _ w))) (zq rfl (q_not rfl rfl) (zq rfl (q_and2 rfl rfl rfl) (qw_end (post_then ?_))))
         refine cw_cond rfl (fun h10 => ?_) (fun h10 => ?_)
         · have h11 : i ≤ j ∧ ¬ (nth v j).v < pv := by
             rw [hav] at h10
             simp at h10; omega
           refine sP (cw_block (cw_region (zm rfl ?_)))
           refine zS rfl (q_sub rfl rfl rfl (by intro hc; omega)) ?_
           refine za rfl (sw_nil (post_blk ?_))
           exact post_next (j - 1) (by exact .cons rfl (.cons rfl (.cons rfl (.cons' rfl (by congr 1; first | omega | (simp only; omega)) .nil)))) (fun _ h => h) ⟨by omega, hJ.j1 h11.1 h11.2⟩ (by omega)
         · have h11 : i ≤ j → (nth v j).v < pv := fun hh => by
             rw [hav] at h10
             simp at h10; omega
           refine cw_exit (post_then_x (post_then_x (post_blk_eq (post_then (cw_seq (zr (zm rfl (zm rfl (zS rfl (q_gtr rfl rfl rfl) (nP ?_))))))))))
           refine cw_cond rfl (fun h12 => ?_) (fun h12 => ?_)
           · have h13 : i = j + 1 := by simp at h12; omega
             have hfin := hJ.fin hb h13
             refine cw_exit (post_then_x (post_blk_ne rfl (post_then_x (post_blk_eq (post_then (cw_seq (cw_region_a (Cl w bs [ownL 21 sv.v v]) [13, 14, 15] mixed_Tryz ?_)))))))
             refine zp 0 rfl (q_move rfl rfl) ?_
             refine zp 1 rfl (q_move rfl rfl) ?_
             refine zp 2 rfl (q_move rfl rfl) ?_
             refine zp 3 rfl (q_move rfl rfl) ?_
             refine zp 4 rfl (q_move rfl rfl) ?_
             refine zp 5 rfl (q_move rfl rfl) ?_
             refine zk 6 (Cl.sel (by exact .take 0 rfl (.nil _))) rfl (q_indexN rfl rfl rfl (rdO (by exact .head _)) (by intro hc; omega)) ?_
             refine zk 7 (Cl.sel (by exact .take 0 rfl (.nil _))) rfl (q_loadF rfl rfl rfl (rdO (by exact .head _)) (by intro hc; omega) rfl) ?_
             refine zp 8 rfl (q_move rfl rfl) ?_
             refine zp 9 rfl (q_move rfl rfl) ?_
             refine zk 10 (Cl.sel (by exact .take 0 rfl (.nil _))) rfl (q_indexN rfl rfl rfl (rdO (by exact .head _)) (by intro hc; omega)) ?_
             refine zk 11 (Cl.sel (by exact .take 0 rfl (.nil _))) rfl (q_loadF rfl rfl rfl (rdO (by exact .head _)) (by intro hc; omega) rfl) ?_
             refine zk 12 (Cl.sel (by exact .take 0 rfl (.nil _))) rfl (q_indexN rfl rfl rfl (rdO (by exact .head _)) (by intro hc; omega)) ?_
             refine aw_one0 13 (by kernel_rfl) rfl rfl rfl (e_storeEl1 (i := 0) rfl rfl rfl rfl rfl (by omega)) (by intro hb; (exact absurd hb (by decide))) ?_
             refine aw_q 14 (by kernel_rfl) rfl rfl rfl rfl (OpR.q (q_indexN rfl rfl rfl (rdO (by exact .head _)) (by intro hc; (simp only [List.length_set, List.length_append, List.length_cons, List.length_nil, List.length_replicate, List.length_take, List.length_drop, List.length_map]; omega)))) (by intro hb; (exact absurd hb (by decide))) ?_
             refine aw_one0 15 (by kernel_rfl) rfl rfl rfl (e_storeEl1 (i := 0) rfl rfl rfl rfl rfl (by (simp only [List.length_set, List.length_append, List.length_cons, List.length_nil, List.length_replicate, List.length_take, List.length_drop, List.length_map]; omega))) (by intro hb; (exact absurd hb (by decide))) ?_
             refine aw_end (by kernel_rfl) ?_
             refine post_then (zr (zm rfl (za rfl (za rfl (nP (cw_ret (post_ret2 rfl (resOk_tmp rfl) (resOk_tmp rfl) ?_)))))))
             exact fun w' hw => ⟨((j, false), swp v j a), rfl, hfin, hw⟩
           · have h13 : i ≤ j := by simp at h12; omega
             obtain ⟨h14, h15⟩ := hJ.sw hb h13 (h9 (by omega)) (h11 h13)
             refine sP (cw_seq (cw_region_a (Cl w bs [ownL 21 sv.v v]) [13, 14, 15] mixed_Tryz ?_))
             refine zp 0 rfl (q_move rfl rfl) ?_
             refine zp 1 rfl (q_move rfl rfl) ?_
             refine zp 2 rfl (q_move rfl rfl) ?_
             refine zp 3 rfl (q_move rfl rfl) ?_
             refine zp 4 rfl (q_move rfl rfl) ?_
             refine zp 5 rfl (q_move rfl rfl) ?_
             refine zk 6 (Cl.sel (by exact .take 0 rfl (.nil _))) rfl (q_indexN rfl rfl rfl (rdO (by exact .head _)) (by intro hc; omega)) ?_
             refine zk 7 (Cl.sel (by exact .take 0 rfl (.nil _))) rfl (q_loadF rfl rfl rfl (rdO (by exact .head _)) (by intro hc; omega) rfl) ?_
             refine zp 8 rfl (q_move rfl rfl) ?_
             refine zp 9 rfl (q_move rfl rfl) ?_
             refine zk 10 (Cl.sel (by exact .take 0 rfl (.nil _))) rfl (q_indexN rfl rfl rfl (rdO (by exact .head _)) (by intro hc; omega)) ?_
             refine zk 11 (Cl.sel (by exact .take 0 rfl (.nil _))) rfl (q_loadF rfl rfl rfl (rdO (by exact .head _)) (by intro hc; omega) rfl) ?_
             refine zk 12 (Cl.sel (by exact .take 0 rfl (.nil _))) rfl (q_indexN rfl rfl rfl (rdO (by exact .head _)) (by intro hc; omega)) ?_
             refine aw_one0 13 (by kernel_rfl) rfl rfl rfl (e_storeEl1 (i := 0) rfl rfl rfl rfl rfl (by omega)) (by intro hb; (exact absurd hb (by decide))) ?_
             refine aw_q 14 (by kernel_rfl) rfl rfl rfl rfl (OpR.q (q_indexN rfl rfl rfl (rdO (by exact .head _)) (by intro hc; (simp only [List.length_set, List.length_append, List.length_cons, List.length_nil, List.length_replicate, List.length_take, List.length_drop, List.length_map]; omega)))) (by intro hb; (exact absurd hb (by decide))) ?_
             refine aw_one0 15 (by kernel_rfl) rfl rfl rfl (e_storeEl1 (i := 0) rfl rfl rfl rfl rfl (by (simp only [List.length_set, List.length_append, List.length_cons, List.length_nil, List.length_replicate, List.length_take, List.length_drop, List.length_map]; omega))) (by intro hb; (exact absurd hb (by decide))) ?_
             refine aw_end (by kernel_rfl) ?_
             refine post_then (zr (zm rfl ?_))
             refine zS rfl (q_add rfl rfl rfl (by intro hc; omega)) ?_
             refine za rfl (nP (cw_region (zm rfl ?_)))
             refine zS rfl (q_sub rfl rfl rfl (by intro hc; omega)) ?_
             refine za rfl (sw_nil (post_blk ?_))
             exact post_next ((i + 1, j - 1), swp v i j) (by exact .cons rfl (.cons rfl (.cons rfl (.cons' rfl (by congr 1; first | omega | (simp only; omega)) .nil)))) (fun w3 hw3 => hw3) h15 (by simp only; omega)
end Go.Proofs.YtkmbliojafefdaaGreatDoor
