import Derived.Test.YtekikelejncgeaaT
import Derived.Test.YtekikelejncgeaaSxMore
import Derived.Test.YtekikelejncgeaaLay
set_option autoImplicit false
set_option linter.unusedSimpArgs false
set_option linter.unusedVariables false
set_option maxRecDepth 100000
namespace Go.Proofs.Ytekikelejncgeaa
open Go.Sx
open Enc (enc val)

/-! ### slices.Sort of whatever length, by the library's contract -/
theorem take_put (zs : List Int) (c : Array Value) (hz : zs.length ≤ c.size) : (Go.Sort.putCells (Value.int .i64) 0 zs.toArray c).toList.take zs.length = zs.map (Value.int .i64) := by
  apply List.ext_getElem?
  intro i
  rw [List.getElem?_take, List.getElem?_map]
  by_cases hi : i < zs.length
  · rw [if_pos hi, List.getElem?_eq_getElem hi]
    simp [Go.Sort.putCells, show i < c.size by omega, hi]
  · rw [if_neg hi, List.getElem?_eq_none (by omega)]; rfl
theorem flat_int (zs : List Int) : zs.flatMap (fun n => [Value.int .i64 n]) = zs.map (Value.int .i64) := by
  induction zs with
  | nil => rfl
  | cons z zs ih => simp [ih]
theorem sortG_spec (sv : SlV) (l : List Int) (hlb : l.length ≤ 1048576) (w : World) (bs : List Nat) (hs : Sep [ownL 3 sv.v l] w bs) (hn : bs.Nodup) (hlt : ∀ b ∈ bs, b < w.heap.size) :
    Calls Try.prog 101 #[sv.v] w fun e w' => ∃ l' : List Int, e = .returned (.tuple #[]) ∧ (l'.Perm l ∧ l'.Pairwise (· ≤ ·)) ∧ Cl w bs [ownL 3 sv.v l'] w' := by
  by_cases h12 : l.length ≤ 12
  · refine (sort12_spec sv l h12 w bs hs hn hlt).mono ?_
    rintro e w' ⟨l', he, hm, hc⟩
    exact ⟨l', he, ⟨hm.1.perm, srt_pairwise (by have := hm.2; rwa [← hm.1.len] at this)⟩, hc⟩
  · obtain ⟨b1, b2, rfl, h1, h2⟩ := hs
    cases h2
    rcases h1 with ⟨_, h, _⟩ | ⟨b, n, cap, cur, e1, rfl, h3, h4, h5, h6, h7, h8⟩
    · rw [show (l.flatMap enc) = l.map (Value.int .i64) from flat_int l] at h
      simp only [List.map_eq_nil_iff] at h
      subst h; simp at h12
    · rw [flat_len] at h7
      have hnl : n = l.length := (Nat.eq_of_mul_eq_mul_right (Enc.pos (α := Int)) h7).symm
      subst hnl
      have hsz : l.length ≤ cur.size := by rw [h6]; show l.length ≤ cap * 1; omega
      have hcur : cur.toList.take l.length = l.map (Value.int .i64) := by
        have := h8
        rw [show (l.flatMap enc) = l.map (Value.int .i64) from flat_int l] at this
        rwa [show Enc.sz Int = 1 from rfl, Nat.mul_one] at this
      have hcell : ∀ j, j < l.length → cur[j]? = some (.int .i64 (l[j]!)) := fun j hj => by
        have := congrArg (·[j]?) hcur
        simp only [List.getElem?_take, if_pos hj, List.getElem?_map] at this
        rw [← Array.getElem?_toList, this, List.getElem?_eq_getElem hj]
        simp [hj]
      have hH : Go.Sort.Holds (Value.int .i64) w b 0 l.toArray := fun j hj => by
        have hj' : j < l.length := by simpa using hj
        refine ⟨?_, ?_⟩
        · rw [cell_at h3, Nat.zero_add, hcell j hj']; simp
        · simp [World.frozen?, h3]
      have hb : b < w.heap.size := hlt b (by simp)
      rw [e1]
      refine (Try.slices_Sort_int b 0 cap l w hH hb (by omega)).mono ?_
      rintro e w' ⟨rfl, q, os, rfl⟩
      have hperm := List.mergeSort_perm l fun x y => decide (x ≤ y)
      have hpw := List.pairwise_mergeSort (le := fun x y : Int => decide (x ≤ y)) (fun a b c h1 h2 => by simp at *; omega) (fun a b => by simp; omega) l
      generalize hM : l.mergeSort (fun x y => decide (x ≤ y)) = M at hperm hpw
      have hMl := hperm.length_eq
      refine ⟨M, rfl, ⟨hperm, hpw.imp (by simp)⟩, ?_⟩
      have hheap : ∀ k, k < w.heap.size → k ≠ b → (Go.Sort.grow (Go.Sort.putRow (Value.int .i64) (Go.Sort.ahead w q) b 0 M.toArray) os).heap[k]? = w.heap[k]? := fun k hk hkb => by
        simp [Go.Sort.grow, Go.Sort.putRow, Go.Sort.mapBlock, Go.Sort.ahead, Array.getElem?_append, hk, Array.getElem_modify, Ne.symm hkb]
      have hnew : (Go.Sort.grow (Go.Sort.putRow (Value.int .i64) (Go.Sort.ahead w q) b 0 M.toArray) os).heap[b]? = some (.cells (Go.Sort.putCells (Value.int .i64) 0 M.toArray cur) 3 (0, 0)) := by
        have h3' := h3
        simp [Go.Sort.grow, Go.Sort.putRow, Go.Sort.mapBlock, Go.Sort.ahead, Array.getElem?_append, hb, Array.getElem_modify]
        rw [Array.getElem?_eq_getElem hb] at h3'
        simp only [Option.some.injEq] at h3'
        rw [h3']
        simp [Go.Sort.onCells]
      refine ⟨⟨rfl, rfl, rfl, ?_, fun k hk hkb => hheap k hk (by simpa using hkb)⟩, [b], ⟨[b], [], rfl, .inr ⟨b, l.length, cap, _, rfl, rfl, hnew, h4, h5, ?_, ?_, ?_⟩, rfl⟩, by simp, fun k hk => ?_⟩
      · simp [Go.Sort.grow, Go.Sort.putRow, Go.Sort.mapBlock, Go.Sort.ahead]
      · simp [Go.Sort.putCells, h6]
      · rw [flat_len, hMl]
      · show (Go.Sort.putCells (Value.int .i64) 0 M.toArray cur).toList.take (l.length * 1) = M.flatMap (fun n => [Value.int .i64 n])
        rw [flat_int, Nat.mul_one, ← hMl]
        exact take_put M cur (by omega)
      · simp at hk; subst hk
        exact ⟨.inl (by simp), (Array.getElem?_eq_some_iff.1 hnew).1⟩
theorem keysG_spec (b clock : Nat) (es : Ents Int Int) (ok : EntsOk es clock) (hlen : es.length ≤ 1048576) (w : World) (hb : Stb w [] (fun w => w.heap[b]? = some (mapO es clock))) :
    Calls Try.prog 94 #[.map (some b)] w fun e w' => ∃ y : SlV × List Int, e = .returned y.1.v ∧ (y.2.Perm (es.map (·.1)) ∧ y.2.Pairwise (· ≤ ·)) ∧ Cl w [] [ownL 3 y.1.v y.2] w' := by
  refine calls_cw (vs := [_]) Try.func94 rfl Try.ntmps94 rfl (Cl.start0 w) ?_
  refine cw_seq ?_
  -- region 0
  refine cw_region ?_
  refine sw_step rfl rfl rfl (OpR.q (q_assign rfl rfl)) ?_
  refine sw_nil ?_
  refine post_then ?_
  refine cw_seq ?_
  -- region 1
  refine cw_region ?_
  refine sw_step rfl rfl rfl (OpR.q (q_assign rfl rfl)) ?_
  refine sw_nil ?_
  refine post_then ?_
  refine cw_seq ?_
  refine cw_seq ?_
  -- region 2
  refine cw_region ?_
  refine sw_step rfl rfl rfl (OpR.q (q_move rfl rfl)) ?_
  -- STOP at: t6   := range 124 t5 :0
  refine sw_x rfl rfl rfl (e_range (es := es) rfl rfl (by first | exact fun w hw => Stb.cl (by assumption) hw | exact fun w hw => cl_obj_at (i := 0) rfl hw | exact fun w hw => cl_obj_at (i := 1) rfl hw | exact fun w hw => cl_obj_at (i := 2) rfl hw | exact fun w hw => cl_obj_at (i := 3) rfl hw | exact fun w hw => cl_obj_at (i := 4) rfl hw | exact fun w hw => cl_obj_at (i := 5) rfl hw | exact fun w hw => cl_obj_at (i := 6) rfl hw | exact fun w hw => cl_obj_at (i := 7) rfl hw)) (fun r6 => ?_)
  refine sw_nil ?_
  refine post_then ?_
  refine cw_block ?_
  -- STOP at: loop
  refine cw_loop (S := Array Nat × SlV × List Int) (fun y => [(3, [], y.2.1.v), (6, [], .pointer (some ⟨r6, 0, none⟩))]) (fun y => Cl w [] [obj r6 (itO b clock y.1), ownL 3 y.2.1.v y.2.2]) (fun y => (y.2.2 ++ (left es y.1).map (·.1)).Perm (es.map (·.1))) (fun y => (left es y.1).length) (#[], ⟨none, 0, 0⟩, []) (by simp [left_nil]) (by (repeat first | exact Le.nil | refine Le.cons rfl ?_ | refine Le.cons' rfl (by congr 1; first | omega | (simp only; omega)) ?_)) (fun w hw => Cl.sel (Sel.take 1 rfl (Sel.take 0 rfl (Sel.nil _))) w (hw.addNil (α := Int) 3)) ?_
  rintro ⟨seen, s, out⟩ hp
  dsimp only at hp ⊢
  have hpl := hp.length_eq
  simp only [List.length_append, List.length_map] at hpl
  refine cw_seq ?_
  -- region 3
  refine cw_region ?_
  -- STOP at: t7   := next t6 false :0
  refine sw_x rfl rfl rfl (e_next (i := 0) rfl rfl rfl ok (by first | exact fun w hw => Stb.cl (by assumption) hw | exact fun w hw => cl_obj_at (i := 0) rfl hw | exact fun w hw => cl_obj_at (i := 1) rfl hw | exact fun w hw => cl_obj_at (i := 2) rfl hw | exact fun w hw => cl_obj_at (i := 3) rfl hw | exact fun w hw => cl_obj_at (i := 4) rfl hw | exact fun w hw => cl_obj_at (i := 5) rfl hw | exact fun w hw => cl_obj_at (i := 6) rfl hw | exact fun w hw => cl_obj_at (i := 7) rfl hw)) (fun y7 => ?_)
  first | refine sw_step rfl rfl rfl (OpR.q (q_extract rfl rfl rfl)) ?_ | refine sw_step rfl rfl rfl (OpR.q (q_extract rfl rfl (nextV_0 _))) ?_
  refine sw_nil ?_
  refine post_then ?_
  refine cw_seq ?_
  -- STOP at: cond
  refine cw_cond rfl (fun h2 => ?_) (fun h2 => ?_)
  · skip
    obtain ⟨e, rfl⟩ := Option.isSome_iff_exists.1 h2
    refine cw_next_some fun he => ?_
    have hes : e ∈ es := (List.mem_filter.1 he).1
    have hperm := left_perm ok he
    have hlen := hperm.length_eq
    refine cw_skip ?_
    refine post_then ?_
    refine cw_block ?_
    refine cw_seq ?_
    -- region 4
    refine cw_region ?_
    -- STOP at: t9   := entry t6 :0
    refine sw_step rfl rfl rfl (OpR.q (q_entry rfl rfl (.head _) ok hes (by first | exact fun w hw => Stb.cl (by assumption) hw | exact fun w hw => cl_obj_at (i := 0) rfl hw | exact fun w hw => cl_obj_at (i := 1) rfl hw | exact fun w hw => cl_obj_at (i := 2) rfl hw | exact fun w hw => cl_obj_at (i := 3) rfl hw | exact fun w hw => cl_obj_at (i := 4) rfl hw | exact fun w hw => cl_obj_at (i := 5) rfl hw | exact fun w hw => cl_obj_at (i := 6) rfl hw | exact fun w hw => cl_obj_at (i := 7) rfl hw))) ?_
    first | refine sw_step rfl rfl rfl (OpR.q (q_extract rfl rfl rfl)) ?_ | refine sw_step rfl rfl rfl (OpR.q (q_extract rfl rfl (nextV_0 _))) ?_
    refine sw_step rfl rfl rfl (OpR.q (q_assign rfl rfl)) ?_
    refine sw_nil ?_
    refine post_then ?_
    -- region 5
    refine cw_region ?_
    refine sw_step rfl rfl rfl (OpR.q (q_move rfl rfl)) ?_
    refine sw_step rfl rfl rfl (OpR.q (q_move rfl rfl)) ?_
    refine sw_x rfl rfl rfl (e_build1 (α := Int) rfl rfl rfl rfl) (fun s13 => ?_)
    first | refine sw_x rfl rfl rfl (e_append (i := 0) rfl (.cons rfl inferInstance (.cons rfl inferInstance (.nil))) rfl rfl (by first | exact fun w hw => Stb.cl (by assumption) hw | exact fun w hw => rd_own hw (by first | assumption | (repeat first | exact .head _ | apply List.Mem.tail)) | assumption) (by simp only [List.length_set, List.length_append, List.length_cons, List.length_nil, List.length_replicate, List.length_take, List.length_drop, List.length_map]; omega) rfl) (fun s14 => ?_) | refine sw_x rfl rfl rfl (e_append (i := 1) rfl (.cons rfl inferInstance (.cons rfl inferInstance (.nil))) rfl rfl (by first | exact fun w hw => Stb.cl (by assumption) hw | exact fun w hw => rd_own hw (by first | assumption | (repeat first | exact .head _ | apply List.Mem.tail)) | assumption) (by simp only [List.length_set, List.length_append, List.length_cons, List.length_nil, List.length_replicate, List.length_take, List.length_drop, List.length_map]; omega) rfl) (fun s14 => ?_) | refine sw_x rfl rfl rfl (e_append (i := 2) rfl (.cons rfl inferInstance (.cons rfl inferInstance (.nil))) rfl rfl (by first | exact fun w hw => Stb.cl (by assumption) hw | exact fun w hw => rd_own hw (by first | assumption | (repeat first | exact .head _ | apply List.Mem.tail)) | assumption) (by simp only [List.length_set, List.length_append, List.length_cons, List.length_nil, List.length_replicate, List.length_take, List.length_drop, List.length_map]; omega) rfl) (fun s14 => ?_) | refine sw_x rfl rfl rfl (e_append (i := 3) rfl (.cons rfl inferInstance (.cons rfl inferInstance (.nil))) rfl rfl (by first | exact fun w hw => Stb.cl (by assumption) hw | exact fun w hw => rd_own hw (by first | assumption | (repeat first | exact .head _ | apply List.Mem.tail)) | assumption) (by simp only [List.length_set, List.length_append, List.length_cons, List.length_nil, List.length_replicate, List.length_take, List.length_drop, List.length_map]; omega) rfl) (fun s14 => ?_) | refine sw_x rfl rfl rfl (e_append (i := 4) rfl (.cons rfl inferInstance (.cons rfl inferInstance (.nil))) rfl rfl (by first | exact fun w hw => Stb.cl (by assumption) hw | exact fun w hw => rd_own hw (by first | assumption | (repeat first | exact .head _ | apply List.Mem.tail)) | assumption) (by simp only [List.length_set, List.length_append, List.length_cons, List.length_nil, List.length_replicate, List.length_take, List.length_drop, List.length_map]; omega) rfl) (fun s14 => ?_) | refine sw_x rfl rfl rfl (e_append (i := 5) rfl (.cons rfl inferInstance (.cons rfl inferInstance (.nil))) rfl rfl (by first | exact fun w hw => Stb.cl (by assumption) hw | exact fun w hw => rd_own hw (by first | assumption | (repeat first | exact .head _ | apply List.Mem.tail)) | assumption) (by simp only [List.length_set, List.length_append, List.length_cons, List.length_nil, List.length_replicate, List.length_take, List.length_drop, List.length_map]; omega) rfl) (fun s14 => ?_) | refine sw_x rfl rfl rfl (e_append (i := 6) rfl (.cons rfl inferInstance (.cons rfl inferInstance (.nil))) rfl rfl (by first | exact fun w hw => Stb.cl (by assumption) hw | exact fun w hw => rd_own hw (by first | assumption | (repeat first | exact .head _ | apply List.Mem.tail)) | assumption) (by simp only [List.length_set, List.length_append, List.length_cons, List.length_nil, List.length_replicate, List.length_take, List.length_drop, List.length_map]; omega) rfl) (fun s14 => ?_) | refine sw_x rfl rfl rfl (e_append (i := 7) rfl (.cons rfl inferInstance (.cons rfl inferInstance (.nil))) rfl rfl (by first | exact fun w hw => Stb.cl (by assumption) hw | exact fun w hw => rd_own hw (by first | assumption | (repeat first | exact .head _ | apply List.Mem.tail)) | assumption) (by simp only [List.length_set, List.length_append, List.length_cons, List.length_nil, List.length_replicate, List.length_take, List.length_drop, List.length_map]; omega) rfl) (fun s14 => ?_) | refine sw_x rfl rfl rfl (e_append (i := 8) rfl (.cons rfl inferInstance (.cons rfl inferInstance (.nil))) rfl rfl (by first | exact fun w hw => Stb.cl (by assumption) hw | exact fun w hw => rd_own hw (by first | assumption | (repeat first | exact .head _ | apply List.Mem.tail)) | assumption) (by simp only [List.length_set, List.length_append, List.length_cons, List.length_nil, List.length_replicate, List.length_take, List.length_drop, List.length_map]; omega) rfl) (fun s14 => ?_) | refine sw_x rfl rfl rfl (e_append (i := 9) rfl (.cons rfl inferInstance (.cons rfl inferInstance (.nil))) rfl rfl (by first | exact fun w hw => Stb.cl (by assumption) hw | exact fun w hw => rd_own hw (by first | assumption | (repeat first | exact .head _ | apply List.Mem.tail)) | assumption) (by simp only [List.length_set, List.length_append, List.length_cons, List.length_nil, List.length_replicate, List.length_take, List.length_drop, List.length_map]; omega) rfl) (fun s14 => ?_) | refine sw_x rfl rfl rfl (e_append (i := 10) rfl (.cons rfl inferInstance (.cons rfl inferInstance (.nil))) rfl rfl (by first | exact fun w hw => Stb.cl (by assumption) hw | exact fun w hw => rd_own hw (by first | assumption | (repeat first | exact .head _ | apply List.Mem.tail)) | assumption) (by simp only [List.length_set, List.length_append, List.length_cons, List.length_nil, List.length_replicate, List.length_take, List.length_drop, List.length_map]; omega) rfl) (fun s14 => ?_) | refine sw_x rfl rfl rfl (e_append (i := 11) rfl (.cons rfl inferInstance (.cons rfl inferInstance (.nil))) rfl rfl (by first | exact fun w hw => Stb.cl (by assumption) hw | exact fun w hw => rd_own hw (by first | assumption | (repeat first | exact .head _ | apply List.Mem.tail)) | assumption) (by simp only [List.length_set, List.length_append, List.length_cons, List.length_nil, List.length_replicate, List.length_take, List.length_drop, List.length_map]; omega) rfl) (fun s14 => ?_) | refine sw_x rfl rfl rfl (e_append (i := 12) rfl (.cons rfl inferInstance (.cons rfl inferInstance (.nil))) rfl rfl (by first | exact fun w hw => Stb.cl (by assumption) hw | exact fun w hw => rd_own hw (by first | assumption | (repeat first | exact .head _ | apply List.Mem.tail)) | assumption) (by simp only [List.length_set, List.length_append, List.length_cons, List.length_nil, List.length_replicate, List.length_take, List.length_drop, List.length_map]; omega) rfl) (fun s14 => ?_) | refine sw_x rfl rfl rfl (e_append (i := 13) rfl (.cons rfl inferInstance (.cons rfl inferInstance (.nil))) rfl rfl (by first | exact fun w hw => Stb.cl (by assumption) hw | exact fun w hw => rd_own hw (by first | assumption | (repeat first | exact .head _ | apply List.Mem.tail)) | assumption) (by simp only [List.length_set, List.length_append, List.length_cons, List.length_nil, List.length_replicate, List.length_take, List.length_drop, List.length_map]; omega) rfl) (fun s14 => ?_) | refine sw_x rfl rfl rfl (e_append (i := 14) rfl (.cons rfl inferInstance (.cons rfl inferInstance (.nil))) rfl rfl (by first | exact fun w hw => Stb.cl (by assumption) hw | exact fun w hw => rd_own hw (by first | assumption | (repeat first | exact .head _ | apply List.Mem.tail)) | assumption) (by simp only [List.length_set, List.length_append, List.length_cons, List.length_nil, List.length_replicate, List.length_take, List.length_drop, List.length_map]; omega) rfl) (fun s14 => ?_) | refine sw_x rfl rfl rfl (e_append (i := 15) rfl (.cons rfl inferInstance (.cons rfl inferInstance (.nil))) rfl rfl (by first | exact fun w hw => Stb.cl (by assumption) hw | exact fun w hw => rd_own hw (by first | assumption | (repeat first | exact .head _ | apply List.Mem.tail)) | assumption) (by simp only [List.length_set, List.length_append, List.length_cons, List.length_nil, List.length_replicate, List.length_take, List.length_drop, List.length_map]; omega) rfl) (fun s14 => ?_)
    refine sw_step rfl rfl rfl (OpR.q (q_assign rfl rfl)) ?_
    refine sw_nil ?_
    refine post_blk ?_
    refine post_next (seen.push e.2.2, s14, out ++ [e.1]) (by (repeat first | exact Le.nil | refine Le.cons rfl ?_ | refine Le.cons' rfl (by congr 1; first | omega | (simp only; omega)) ?_)) (fun w h => Cl.sel (by (repeat first | exact Sel.nil _ | refine Sel.take 0 rfl ?_ | refine Sel.take 1 rfl ?_ | refine Sel.take 2 rfl ?_ | refine Sel.take 3 rfl ?_ | refine Sel.take 4 rfl ?_ | refine Sel.take 5 rfl ?_ | refine Sel.take 6 rfl ?_ | refine Sel.take 7 rfl ?_ | refine Sel.take 8 rfl ?_ | refine Sel.take 9 rfl ?_ | refine Sel.take 10 rfl ?_ | refine Sel.take 11 rfl ?_)) w h) ?_ ?_
    · simp only
      refine List.Perm.trans ?_ hp
      have := (hperm.map (·.1)).symm
      simp only [List.append_assoc, List.singleton_append]
      exact List.Perm.append_left out this
    · simp only [List.length_cons] at hlen ⊢
      omega
  · skip
    have hn : y7 = none := by cases y7 <;> simp_all
    subst hn
    refine cw_next_none fun hl0 => ?_
    rw [hl0] at hp hpl
    simp only [List.map_nil, List.append_nil, List.length_nil] at hp hpl
    refine cw_exit ?_
    refine post_then_x ?_
    refine post_then_x ?_
    refine post_blk_eq ?_
    refine post_then ?_
    refine cw_seq ?_
    -- region 6
    refine cw_region ?_
    refine sw_step rfl rfl rfl (OpR.q (q_move rfl rfl)) ?_
    -- STOP at: t16  := call {callee=(value F101), args=[t15], argTypes=[37]} :0
    refine sw_x rfl rfl rfl (e_callH (A := [ownL 3 s.v out]) (F := [obj r6 (itO b clock seen)]) (CanCall.mk Try.call101) rfl rfl (.cons rfl inferInstance (.nil)) (.swap _ _ _) (fun w bs h1 h2 h3 _ _ => sortG_spec s out (by omega) w bs h1 h2 h3)) (fun l16 => ?_)
    refine sw_imp fun hm => ?_
    refine sw_nil ?_
    refine post_then ?_
    refine cw_seq ?_
    -- region 7
    refine cw_region ?_
    refine sw_step rfl rfl rfl (OpR.q (q_move rfl rfl)) ?_
    refine sw_step rfl rfl rfl (OpR.q (q_assign rfl rfl)) ?_
    refine sw_nil ?_
    refine post_then ?_
    refine cw_ret ?_
    refine post_ret1 rfl (resOk_tmp rfl) ?_
    exact fun w' hw => ⟨(s, l16), rfl, ⟨hm.1.trans hp, hm.2⟩, (fun w h => Cl.sel (by (repeat first | exact Sel.nil _ | refine Sel.take 0 rfl ?_ | refine Sel.take 1 rfl ?_ | refine Sel.take 2 rfl ?_ | refine Sel.take 3 rfl ?_ | refine Sel.take 4 rfl ?_ | refine Sel.take 5 rfl ?_ | refine Sel.take 6 rfl ?_ | refine Sel.take 7 rfl ?_ | refine Sel.take 8 rfl ?_ | refine Sel.take 9 rfl ?_ | refine Sel.take 10 rfl ?_ | refine Sel.take 11 rfl ?_)) w h) _ hw⟩
end Go.Proofs.Ytekikelejncgeaa
