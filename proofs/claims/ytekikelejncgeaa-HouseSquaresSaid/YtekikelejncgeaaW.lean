import Derived.Test.YtekikelejncgeaaT
import Derived.Test.YtekikelejncgeaaSxMore
set_option autoImplicit false
set_option linter.unusedSimpArgs false
set_option linter.unusedVariables false
set_option maxRecDepth 100000
namespace Go.Proofs.Ytekikelejncgeaa
open Go.Sx
open Enc (enc val)

/-! ### marks and their words -/
def rightS (m : Stamp) : Bool := inB m.key 0 4611686018427387903 && inB m.period 4 256 && inB m.bits 1 16 && inB m.margin 1 1000000000
theorem rightS_bd {m : Stamp} (h : rightS m = true) : (0 ≤ m.key ∧ m.key ≤ 4611686018427387903) ∧ (4 ≤ m.period ∧ m.period ≤ 256) ∧ (1 ≤ m.bits ∧ m.bits ≤ 16) ∧ (1 ≤ m.margin ∧ m.margin ≤ 1000000000) := by
  simp [rightS, inB] at h; omega
def okMsg (m : Stamp) (msg : Int) : Bool := decide (0 ≤ msg) && decide (msg < 2 ^ m.bits.toNat)
theorem pow16 {n : Nat} (h : n ≤ 16) : (1 : Int) ≤ 2 ^ n ∧ (2 : Int) ^ n ≤ 65536 := by
  have h5 : (2 : Int) ^ n ≤ 2 ^ 16 := two_pow_le h
  have h6 : (0 : Int) < 2 ^ n := Int.pow_pos (by decide)
  omega
theorem wrap_pow {b : Int} (h : 0 ≤ b ∧ b ≤ 16) : IntKind.i64.wrap (1 * 2 ^ b.toNat) = 2 ^ b.toNat := by
  have := pow16 (n := b.toNat) (by omega)
  rw [Int.one_mul]
  simp only [IntKind.wrap, IntKind.signed, IntKind.bits]
  generalize (2 : Int) ^ b.toNat = z at this
  simp
  omega
theorem okMsg_bd {m : Stamp} {msg : Int} (hm : rightS m = true) (h : okMsg m msg = true) : 0 ≤ msg ∧ msg < 65536 := by
  have h1 := rightS_bd hm
  have := pow16 (n := m.bits.toNat) (by omega)
  simp [okMsg] at h
  omega
theorem right_spec (m : Stamp) (w : World) : Calls Try.prog 68 #[val m] w fun e w' => e = .returned (.bool (rightS m)) ∧ Cl w [] [] w' := by
  refine calls_cw (vs := [_]) Try.func68 rfl Try.ntmps68 rfl (Cl.start0 w) ?_
  refine cw_seq ?_
  -- region 0
  refine cw_region ?_
  refine sw_x rfl rfl rfl (e_box rfl rfl rfl) (fun b1 => ?_)
  refine sw_step rfl rfl rfl (OpR.q (q_assign rfl rfl)) ?_
  refine sw_nil ?_
  refine post_then ?_
  refine cw_seq ?_
  -- region 1
  refine cw_region ?_
  refine sw_step rfl rfl rfl (OpR.q (q_fieldAddr rfl rfl)) ?_
  refine sw_step rfl rfl rfl (OpR.q (q_loadC rfl rfl (by exact .head _) rfl)) ?_
  refine sw_step rfl rfl rfl (q_call (CanCall.mk Try.call52) rfl (.cons rfl inferInstance (.cons rfl inferInstance (.cons rfl inferInstance (.nil)))) (fun _ w hw => callq hw (within_spec _ _ _ w))) ?_
  refine sw_step rfl rfl rfl (OpR.q (q_move rfl rfl)) ?_
  refine sw_step rfl rfl rfl (OpR.q (q_fieldAddr rfl rfl)) ?_
  refine sw_step rfl rfl rfl (OpR.q (q_loadC rfl rfl (by exact .head _) rfl)) ?_
  refine sw_step rfl rfl rfl (q_call (CanCall.mk Try.call52) rfl (.cons rfl inferInstance (.cons rfl inferInstance (.cons rfl inferInstance (.nil)))) (fun _ w hw => callq hw (within_spec _ _ _ w))) ?_
  refine sw_step rfl rfl rfl (OpR.q (q_and2 rfl rfl rfl)) ?_
  refine sw_step rfl rfl rfl (OpR.q (q_move rfl rfl)) ?_
  refine sw_step rfl rfl rfl (OpR.q (q_fieldAddr rfl rfl)) ?_
  refine sw_step rfl rfl rfl (OpR.q (q_loadC rfl rfl (by exact .head _) rfl)) ?_
  refine sw_step rfl rfl rfl (q_call (CanCall.mk Try.call52) rfl (.cons rfl inferInstance (.cons rfl inferInstance (.cons rfl inferInstance (.nil)))) (fun _ w hw => callq hw (within_spec _ _ _ w))) ?_
  refine sw_step rfl rfl rfl (OpR.q (q_and2 rfl rfl rfl)) ?_
  refine sw_step rfl rfl rfl (OpR.q (q_move rfl rfl)) ?_
  refine sw_step rfl rfl rfl (OpR.q (q_fieldAddr rfl rfl)) ?_
  refine sw_step rfl rfl rfl (OpR.q (q_loadC rfl rfl (by exact .head _) rfl)) ?_
  refine sw_step rfl rfl rfl (q_call (CanCall.mk Try.call52) rfl (.cons rfl inferInstance (.cons rfl inferInstance (.cons rfl inferInstance (.nil)))) (fun _ w hw => callq hw (within_spec _ _ _ w))) ?_
  refine sw_step rfl rfl rfl (OpR.q (q_and2 rfl rfl rfl)) ?_
  refine sw_step rfl rfl rfl (OpR.q (q_assign rfl rfl)) ?_
  refine sw_nil ?_
  refine post_then ?_
  refine cw_ret ?_
  refine post_ret1 rfl (resOk_tmp rfl) ?_
  refine fun w' hw => ⟨rfl, (fun w h => Cl.sel (by exact .nil _) w h) _ hw⟩
theorem refStamp_spec (m : Stamp) (w : World) : Calls Try.prog 36 #[val m] w fun e w' => e = .returned (.bool (rightS m)) ∧ Cl w [] [] w' := by
  refine calls_cw (vs := [_]) Try.func36 rfl Try.ntmps36 rfl (Cl.start0 w) ?_
  refine cw_seq ?_
  -- region 0
  refine cw_region ?_
  refine sw_x rfl rfl rfl (e_box rfl rfl rfl) (fun b1 => ?_)
  refine sw_step rfl rfl rfl (OpR.q (q_assign rfl rfl)) ?_
  refine sw_nil ?_
  refine post_then ?_
  refine cw_seq ?_
  -- region 1
  refine cw_region ?_
  refine sw_step rfl rfl rfl (OpR.q (q_fieldAddr rfl rfl)) ?_
  refine sw_step rfl rfl rfl (OpR.q (q_loadC rfl rfl (by exact .head _) rfl)) ?_
  refine sw_step rfl rfl rfl (q_call (CanCall.mk Try.call60) rfl (.cons rfl inferInstance (.cons rfl inferInstance (.cons rfl inferInstance (.nil)))) (fun _ w hw => callq hw (refIn_spec _ _ _ w))) ?_
  refine sw_step rfl rfl rfl (OpR.q (q_move rfl rfl)) ?_
  refine sw_step rfl rfl rfl (OpR.q (q_fieldAddr rfl rfl)) ?_
  refine sw_step rfl rfl rfl (OpR.q (q_loadC rfl rfl (by exact .head _) rfl)) ?_
  refine sw_step rfl rfl rfl (q_call (CanCall.mk Try.call60) rfl (.cons rfl inferInstance (.cons rfl inferInstance (.cons rfl inferInstance (.nil)))) (fun _ w hw => callq hw (refIn_spec _ _ _ w))) ?_
  refine sw_step rfl rfl rfl (OpR.q (q_and2 rfl rfl rfl)) ?_
  refine sw_step rfl rfl rfl (OpR.q (q_move rfl rfl)) ?_
  refine sw_step rfl rfl rfl (OpR.q (q_fieldAddr rfl rfl)) ?_
  refine sw_step rfl rfl rfl (OpR.q (q_loadC rfl rfl (by exact .head _) rfl)) ?_
  refine sw_step rfl rfl rfl (q_call (CanCall.mk Try.call60) rfl (.cons rfl inferInstance (.cons rfl inferInstance (.cons rfl inferInstance (.nil)))) (fun _ w hw => callq hw (refIn_spec _ _ _ w))) ?_
  refine sw_step rfl rfl rfl (OpR.q (q_and2 rfl rfl rfl)) ?_
  refine sw_step rfl rfl rfl (OpR.q (q_move rfl rfl)) ?_
  refine sw_step rfl rfl rfl (OpR.q (q_fieldAddr rfl rfl)) ?_
  refine sw_step rfl rfl rfl (OpR.q (q_loadC rfl rfl (by exact .head _) rfl)) ?_
  refine sw_step rfl rfl rfl (q_call (CanCall.mk Try.call60) rfl (.cons rfl inferInstance (.cons rfl inferInstance (.cons rfl inferInstance (.nil)))) (fun _ w hw => callq hw (refIn_spec _ _ _ w))) ?_
  refine sw_step rfl rfl rfl (OpR.q (q_and2 rfl rfl rfl)) ?_
  refine sw_step rfl rfl rfl (OpR.q (q_assign rfl rfl)) ?_
  refine sw_nil ?_
  refine post_then ?_
  refine cw_ret ?_
  refine post_ret1 rfl (resOk_tmp rfl) ?_
  refine fun w' hw => ⟨rfl, (fun w h => Cl.sel (by exact .nil _) w h) _ hw⟩
theorem refMessage_spec (m : Stamp) (msg : Int) (hm : rightS m = true) (w : World) : Calls Try.prog 37 #[val m, .int .i64 msg] w fun e w' => e = .returned (.bool (okMsg m msg)) ∧ Cl w [] [] w' := by
  have hb := rightS_bd hm
  refine calls_cw (vs := [_, _]) Try.func37 rfl Try.ntmps37 rfl (Cl.start0 w) ?_
  refine cw_seq ?_
  -- region 0
  refine cw_region ?_
  refine sw_x rfl rfl rfl (e_box rfl rfl rfl) (fun b2 => ?_)
  refine sw_step rfl rfl rfl (OpR.q (q_assign rfl rfl)) ?_
  refine sw_nil ?_
  refine post_then ?_
  refine cw_seq ?_
  -- region 1
  refine cw_region ?_
  refine sw_step rfl rfl rfl (OpR.q (q_move rfl rfl)) ?_
  refine sw_step rfl rfl rfl (OpR.q (q_geq rfl rfl rfl)) ?_
  refine sw_step rfl rfl rfl (OpR.q (q_move rfl rfl)) ?_
  refine sw_step rfl rfl rfl (OpR.q (q_move rfl rfl)) ?_
  refine sw_step rfl rfl rfl (OpR.q (q_fieldAddr rfl rfl)) ?_
  refine sw_step rfl rfl rfl (OpR.q (q_loadC rfl rfl (by exact .head _) rfl)) ?_
  refine sw_step rfl rfl rfl (OpR.q (q_shl rfl rfl rfl (by (dsimp only [IntKind.bits]; exact (by intro hc; omega))))) ?_
  refine sw_step rfl rfl rfl (OpR.q (q_lss rfl rfl rfl)) ?_
  refine sw_step rfl rfl rfl (OpR.q (q_and2 rfl rfl rfl)) ?_
  refine sw_step rfl rfl rfl (OpR.q (q_assign rfl rfl)) ?_
  refine sw_nil ?_
  refine post_then ?_
  refine cw_ret ?_
  refine post_ret1 rfl (resOk_tmp rfl) ?_
  refine fun w' hw => ⟨?_, (fun w h => Cl.sel (by exact .nil _) w h) _ hw⟩
  rw [wrap_pow (by omega)]
  rfl

def wordOk (m : Stamp) (msg : Int) : Bool := rightS m && okMsg m msg
theorem inB_msg {m : Stamp} {msg : Int} (hm : rightS m = true) : inB msg 0 (IntKind.i64.wrap (1 * 2 ^ m.bits.toNat) - 1) = okMsg m msg := by
  have hb := rightS_bd hm
  rw [wrap_pow (by omega), inB, okMsg]
  congr 1
  rw [decide_eq_decide]
  omega
def bitOf (msg i : Int) : Bool := decide (msg / 2 ^ i.toNat % 2 = 1)
theorem and1_i64 (x : Int) (h : 0 ≤ x ∧ x < 9223372036854775808) : bits .and .i64 x 1 = x % 2 := by
  obtain ⟨a, rfl⟩ := Int.eq_ofNat_of_zero_le h.1
  have hx : a &&& 1 < 2 ^ 64 := Nat.and_lt_two_pow _ (by omega)
  have h1 : (BitVec.ofInt 64 (a : Int)).toNat = a := by
    rw [BitVec.ofInt_natCast, BitVec.toNat_ofNat]; exact Nat.mod_eq_of_lt (by omega)
  have h2 : (BitVec.ofInt 64 (1 : Int)).toNat = 1 := by decide
  show IntKind.i64.wrap ((BitVec.ofInt 64 (a : Int) &&& BitVec.ofInt 64 (1 : Int)).toNat : Int) = _
  rw [BitVec.toNat_and, h1, h2, Nat.and_one_is_mod]
  simp only [IntKind.wrap, IntKind.signed, IntKind.bits]
  simp
  omega
/-- The first k bits of a message of n bits, the greatest first. -/
def msgL (n : Nat) (msg : Int) (k : Nat) : List Bool := (List.range k).map fun (j : Nat) => bitOf msg ((n : Int) - 1 - j)
theorem msgL_len (n : Nat) (msg : Int) (k : Nat) : (msgL n msg k).length = k := by simp [msgL]
theorem msgL_succ (n : Nat) (msg : Int) (k : Nat) : msgL n msg (k + 1) = msgL n msg k ++ [bitOf msg (n - 1 - k)] := by simp [msgL, List.range_succ]
def tailL (key msg : Int) (k : Nat) : List Bool := (List.range k).map fun j => coin (key + 1 + msg) (48 + j)
theorem tailL_len (key msg : Int) (k : Nat) : (tailL key msg k).length = k := by simp [tailL]
theorem tailL_succ (key msg : Int) (k : Nat) : tailL key msg (k + 1) = tailL key msg k ++ [coin (key + 1 + msg) (48 + k)] := by simp [tailL, List.range_succ]
def wordL (m : Stamp) (msg : Int) : List Bool := msgL m.bits.toNat msg m.bits.toNat ++ tailL m.key msg 16
theorem chips_nth (s : Int) (n k : Nat) (h : k < n) : nth (chipsL s n) k = if coin s k then 1 else -1 := by
  rw [nth_get (by simpa [chipsL] using h)]; simp [chipsL]
theorem div_lt_big {x : Int} (i : Nat) (h : 0 ≤ x ∧ x < 65536) : 0 ≤ x / 2 ^ i ∧ x / 2 ^ i < 9223372036854775808 := by
  have h6 : (0 : Int) < 2 ^ i := Int.pow_pos (by decide)
  have := Int.ediv_nonneg h.1 (Int.le_of_lt h6)
  have := Int.ediv_le_self (2 ^ i) h.1
  omega
/-- What the printer's bit is. -/
theorem bit_eq {msg i : Int} (h : 0 ≤ msg ∧ msg < 65536) : decide (bits .and .i64 (msg / 2 ^ i.toNat) 1 = 1) = bitOf msg i := by
  rw [and1_i64 _ (div_lt_big _ h)]; rfl
theorem chip_eq (s : Int) (n k : Nat) (h : k < n) : decide (nth (chipsL s n) k = 1) = coin s k := by
  rw [chips_nth s n k h]; cases coin s k <;> simp

theorem refWord_spec (m : Stamp) (msg : Int) (hm : rightS m = true) (hg : 0 ≤ msg ∧ msg < 65536) (w : World) :
    Calls Try.prog 38 #[val m, .int .i64 msg] w fun e w' => ∃ s : SlV, e = .returned s.v ∧ True ∧ Cl w [] [ownL 4 s.v (wordL m msg)] w' := by
  have hb := rightS_bd hm
  obtain ⟨⟨hb1, hb2⟩, _, ⟨hb5, hb6⟩, _⟩ := hb
  refine calls_cw (vs := [_, _]) Try.func38 rfl Try.ntmps38 rfl (Cl.start0 w) ?_
  refine cw_seq ?_
  -- region 0
  refine cw_region ?_
  refine sw_x rfl rfl rfl (e_box rfl rfl rfl) (fun b2 => ?_)
  refine sw_step rfl rfl rfl (OpR.q (q_assign rfl rfl)) ?_
  refine sw_nil ?_
  refine post_then ?_
  refine cw_seq ?_
  -- region 1
  refine cw_region ?_
  refine sw_step rfl rfl rfl (OpR.q (q_assign rfl rfl)) ?_
  refine sw_nil ?_
  refine post_then ?_
  refine cw_seq ?_
  refine cw_seq ?_
  -- region 2
  refine cw_region ?_
  refine sw_step rfl rfl rfl (OpR.q (q_fieldAddr rfl rfl)) ?_
  refine sw_step rfl rfl rfl (OpR.q (q_loadC rfl rfl (by exact .head _) rfl)) ?_
  refine sw_step rfl rfl rfl (OpR.q (q_sub rfl rfl rfl (by intro hc; omega))) ?_
  refine sw_step rfl rfl rfl (OpR.q (q_assign rfl rfl)) ?_
  refine sw_nil ?_
  refine post_then ?_
  refine cw_block ?_
  -- STOP at: loop
  refine cw_loop (S := Nat × SlV) (fun x => [(1, [], .int .i64 msg), (2, [], .pointer (some ⟨b2, 0, none⟩)), (5, [], x.2.v), (6, [], .int .i64 (m.bits - 1 - x.1))]) (fun x => Cl w [] [ownL 4 x.2.v (msgL m.bits.toNat msg x.1), blk b2 (enc m) 55]) (fun x => x.1 ≤ m.bits.toNat) (fun x => m.bits.toNat - x.1) (0, ⟨none, 0, 0⟩) (by simp) (by exact .cons rfl (.cons rfl (.cons rfl (.cons' rfl (by congr 1; first | omega | (simp only; omega)) .nil)))) (fun _ h => h.addNil (α := Bool) 4) ?_
  rintro ⟨k, s⟩ hk
  have hlen := msgL_len m.bits.toNat msg k
  dsimp only at hk ⊢
  refine cw_seq ?_
  refine cw_seq ?_
  -- region 3
  refine cw_region ?_
  refine sw_step rfl rfl rfl (OpR.q (q_move rfl rfl)) ?_
  refine sw_step rfl rfl rfl (OpR.q (q_geq rfl rfl rfl)) ?_
  refine sw_nil ?_
  refine post_then ?_
  -- STOP at: cond
  refine cw_cond rfl (fun h => ?_) (fun h => ?_)
  · skip
    have h1 : k < m.bits.toNat := by simp at h; omega
    refine cw_skip ?_
    refine post_then ?_
    refine cw_seq ?_
    refine cw_block ?_
    -- region 5
    refine cw_region ?_
    refine sw_step rfl rfl rfl (OpR.q (q_move rfl rfl)) ?_
    refine sw_step rfl rfl rfl (OpR.q (q_move rfl rfl)) ?_
    refine sw_step rfl rfl rfl (OpR.q (q_move rfl rfl)) ?_
    refine sw_step rfl rfl rfl (OpR.q (q_shr rfl rfl rfl (by (dsimp only [IntKind.bits]; exact (by intro hc; omega))))) ?_
    refine sw_step rfl rfl rfl (OpR.q (q_and rfl rfl rfl)) ?_
    refine sw_step rfl rfl rfl (OpR.q (q_eql rfl rfl rfl)) ?_
    refine sw_x rfl rfl rfl (e_build1 (α := Bool) rfl rfl rfl rfl) (fun s22 => ?_)
    refine sw_x rfl rfl rfl (e_append (i := 1) rfl (.cons rfl inferInstance (.cons rfl inferInstance (.nil))) rfl rfl (by exact fun w hw => rd_own hw (by exact .head _)) (by simp only [List.length_set, List.length_append, List.length_cons, List.length_nil, List.length_replicate, List.length_take, List.length_drop, List.length_map]; omega) rfl) (fun s23 => ?_)
    refine sw_step rfl rfl rfl (OpR.q (q_assign rfl rfl)) ?_
    refine sw_nil ?_
    refine post_blk ?_
    refine post_then ?_
    -- region 4
    refine cw_region ?_
    refine sw_step rfl rfl rfl (OpR.q (q_move rfl rfl)) ?_
    refine sw_step rfl rfl rfl (OpR.q (q_sub rfl rfl rfl (by intro hc; omega))) ?_
    refine sw_step rfl rfl rfl (OpR.q (q_assign rfl rfl)) ?_
    refine sw_nil ?_
    refine post_next (k + 1, s23) (by exact .cons rfl (.cons rfl (.cons rfl (.cons' rfl (by congr 1; first | omega | (simp only; omega)) .nil)))) (fun w3 hw3 => ?_) (by simp only; omega) (by simp only; omega)
    dsimp only
    rw [msgL_succ]
    rw [bit_eq hg, show m.bits - 1 - (k : Int) = (m.bits.toNat : Int) - 1 - k by omega] at hw3
    exact (fun w h => Cl.sel (by exact .take 1 rfl (.take 1 rfl (.nil _))) w h) _ hw3
  · skip
    have h1 : k = m.bits.toNat := by simp at h; omega
    subst h1
    refine cw_exit ?_
    refine post_then_x ?_
    refine post_then_x ?_
    refine post_blk_eq ?_
    refine post_then ?_
    refine cw_seq ?_
    -- region 6
    refine cw_region ?_
    refine sw_step rfl rfl rfl (OpR.q (q_fieldAddr rfl rfl)) ?_
    refine sw_step rfl rfl rfl (OpR.q (q_loadC rfl rfl (by exact .tail _ (.head _)) rfl)) ?_
    refine sw_step rfl rfl rfl (OpR.q (q_add rfl rfl rfl (by intro hc; omega))) ?_
    refine sw_step rfl rfl rfl (OpR.q (q_move rfl rfl)) ?_
    refine sw_step rfl rfl rfl (OpR.q (q_add rfl rfl rfl (by intro hc; omega))) ?_
    -- STOP at: t29  := call {callee=(value F35), args=[t28, 64:i64], argTypes=[3, 3]} :37
    refine sw_x rfl rfl rfl (e_call (CanCall.mk Try.call35) rfl (.cons rfl inferInstance (.cons rfl inferInstance (.nil))) (fun w hw => refChips_spec (m.key + 1 + msg) 64 (by decide) w)) (fun s29 => ?_)
    refine sw_imp fun _ => ?_
    refine sw_step rfl rfl rfl (OpR.q (q_assign rfl rfl)) ?_
    refine sw_nil ?_
    refine post_then ?_
    refine cw_seq ?_
    refine cw_seq ?_
    -- region 7
    refine cw_region ?_
    refine sw_step rfl rfl rfl (OpR.q (q_assign rfl rfl)) ?_
    refine sw_nil ?_
    refine post_then ?_
    refine cw_block ?_
    -- STOP at: loop
    refine cw_loop (S := Nat × SlV) (fun x => [(5, [], x.2.v), (7, [], s29.v), (8, [], .int .i64 (48 + x.1))]) (fun x => Cl w [] [ownL 4 x.2.v (msgL m.bits.toNat msg m.bits.toNat ++ tailL m.key msg x.1), ownL 3 s29.v (chipsL (m.key + 1 + msg) 64)]) (fun x => x.1 ≤ 16) (fun x => 16 - x.1) (0, s) (by simp) (by exact .cons rfl (.cons rfl (.cons rfl .nil))) (fun _ h => by simpa [tailL] using (fun w h => Cl.sel (by exact .take 1 rfl (.take 0 rfl (.nil _))) w h) _ h) ?_
    rintro ⟨k, s'⟩ hk
    have hlen2 := tailL_len m.key msg k
    have hlen3 := chipsL_len (m.key + 1 + msg) 64
    dsimp only at hk ⊢
    refine cw_seq ?_
    refine cw_seq ?_
    -- region 8
    refine cw_region ?_
    refine sw_step rfl rfl rfl (OpR.q (q_move rfl rfl)) ?_
    refine sw_step rfl rfl rfl (OpR.q (q_lss rfl rfl rfl)) ?_
    refine sw_nil ?_
    refine post_then ?_
    -- STOP at: cond
    refine cw_cond rfl (fun h => ?_) (fun h => ?_)
    · skip
      have h1 : k < 16 := by simp at h; omega
      refine cw_skip ?_
      refine post_then ?_
      refine cw_seq ?_
      refine cw_block ?_
      -- region 10
      refine cw_region ?_
      refine sw_step rfl rfl rfl (OpR.q (q_move rfl rfl)) ?_
      refine sw_step rfl rfl rfl (OpR.q (q_move rfl rfl)) ?_
      refine sw_step rfl rfl rfl (OpR.q (q_move rfl rfl)) ?_
      refine sw_step rfl rfl rfl (OpR.q (q_indexN rfl rfl rfl (by exact fun w hw => rd_own hw (by exact .tail _ (.head _))) (by intro hc; (simp only [List.length_set, List.length_append, List.length_cons, List.length_nil, List.length_replicate, List.length_take, List.length_drop, List.length_map]; omega)))) ?_
      refine sw_step rfl rfl rfl (OpR.q (q_loadEl rfl rfl rfl (by exact fun w hw => rd_own hw (by exact .tail _ (.head _))) (by intro hc; (simp only [List.length_set, List.length_append, List.length_cons, List.length_nil, List.length_replicate, List.length_take, List.length_drop, List.length_map]; omega)))) ?_
      refine sw_step rfl rfl rfl (OpR.q (q_eql rfl rfl rfl)) ?_
      refine sw_x rfl rfl rfl (e_build1 (α := Bool) rfl rfl rfl rfl) (fun s40 => ?_)
      refine sw_x rfl rfl rfl (e_append (i := 1) rfl (.cons rfl inferInstance (.cons rfl inferInstance (.nil))) rfl rfl (by exact fun w hw => rd_own hw (by exact .head _)) (by simp only [List.length_set, List.length_append, List.length_cons, List.length_nil, List.length_replicate, List.length_take, List.length_drop, List.length_map]; omega) rfl) (fun s41 => ?_)
      refine sw_step rfl rfl rfl (OpR.q (q_assign rfl rfl)) ?_
      refine sw_nil ?_
      refine post_blk ?_
      refine post_then ?_
      -- region 9
      refine cw_region ?_
      refine sw_step rfl rfl rfl (OpR.q (q_move rfl rfl)) ?_
      refine sw_step rfl rfl rfl (OpR.q (q_add rfl rfl rfl (by intro hc; omega))) ?_
      refine sw_step rfl rfl rfl (OpR.q (q_assign rfl rfl)) ?_
      refine sw_nil ?_
      refine post_next (k + 1, s41) (by exact .cons rfl (.cons rfl (.cons rfl .nil))) (fun w3 hw3 => ?_) (by simp only; omega) (by simp only; omega)
      dsimp only
      rw [tailL_succ, ← List.append_assoc]
      rw [chip_eq _ 64 (48 + k) (by show 48 + k < 64; omega)] at hw3
      exact (fun w h => Cl.sel (by exact .take 1 rfl (.take 1 rfl (.nil _))) w h) _ hw3
    · skip
      have h1 : k = 16 := by simp at h; omega
      subst h1
      refine cw_exit ?_
      refine post_then_x ?_
      refine post_then_x ?_
      refine post_blk_eq ?_
      refine post_then ?_
      refine cw_seq ?_
      -- region 11
      refine cw_region ?_
      refine sw_step rfl rfl rfl (OpR.q (q_move rfl rfl)) ?_
      refine sw_step rfl rfl rfl (OpR.q (q_assign rfl rfl)) ?_
      refine sw_nil ?_
      refine post_then ?_
      refine cw_ret ?_
      refine post_ret1 rfl (resOk_tmp rfl) ?_
      exact fun w' hw => ⟨s', rfl, trivial, (fun w h => Cl.sel (by exact .take 0 rfl (.nil _)) w h) _ hw⟩

/-- A marker's block. -/
def mkC (m : Stamp) (s : SlV) : List Value := [.int .i64 m.key, .int .i64 m.period, .int .i64 m.bits, .int .i64 m.margin, (s.sub 1 0 m.period.toNat).v, (s.sub 1 m.period.toNat (chipsL m.key (2 * m.period).toNat).length).v]
theorem start_spec (m : Stamp) (hm : rightS m = true) (w : World) :
    Calls Try.prog 69 #[val m] w fun e w' => ∃ x : Nat × SlV, e = .returned (.pointer (some ⟨x.1, 0, none⟩)) ∧ True ∧ Cl w [] [blk x.1 (mkC m x.2) 108, ownL 3 x.2.v (chipsL m.key (2 * m.period).toNat)] w' := by
  have hb := rightS_bd hm
  obtain ⟨⟨hb1, hb2⟩, ⟨hb3, hb4⟩, ⟨hb5, hb6⟩, _⟩ := hb
  refine calls_cw (vs := [_]) Try.func69 rfl Try.ntmps69 rfl (Cl.start0 w) ?_
  refine cw_seq ?_
  -- region 0
  refine cw_region ?_
  refine sw_x rfl rfl rfl (e_box rfl rfl rfl) (fun b1 => ?_)
  refine sw_step rfl rfl rfl (OpR.q (q_assign rfl rfl)) ?_
  refine sw_nil ?_
  refine post_then ?_
  refine cw_seq ?_
  -- region 1
  refine cw_region ?_
  refine sw_step rfl rfl rfl (OpR.q (q_fieldAddr rfl rfl)) ?_
  refine sw_step rfl rfl rfl (OpR.q (q_loadC rfl rfl (by exact .head _) rfl)) ?_
  refine sw_step rfl rfl rfl (OpR.q (q_fieldAddr rfl rfl)) ?_
  refine sw_step rfl rfl rfl (OpR.q (q_loadC rfl rfl (by exact .head _) rfl)) ?_
  refine sw_step rfl rfl rfl (OpR.q (q_mul rfl rfl rfl (by intro hc; omega))) ?_
  -- STOP at: t9   := call {callee=(value F67), args=[t5, t8], argTypes=[3, 3]} :37
  have e2 : 2 * m.period = ((2 * m.period).toNat : Int) := by omega
  refine sw_x rfl rfl rfl (e_call (CanCall.mk Try.call67) rfl (.cons rfl inferInstance (.cons rfl inferInstance (.nil))) (fun w hw => by rw [e2]; exact chips_spec m.key (2 * m.period).toNat (by omega) w)) (fun s9 => ?_)
  refine sw_imp fun _ => ?_
  have hlen := chipsL_len m.key (2 * m.period).toNat
  refine sw_step rfl rfl rfl (OpR.q (q_assign rfl rfl)) ?_
  refine sw_nil ?_
  refine post_then ?_
  refine cw_seq ?_
  -- region 2
  -- STOP: a region with effects that draws its order
  refine cw_region_a (Cl w [] [ownL 3 s9.v (chipsL m.key (2 * m.period).toNat), blk b1 (enc m) 55]) [] mixed_Try ?_
  refine aw_take 0 (fun w h => Cl.sel (by exact .take 0 rfl (.take 0 rfl (.nil _))) w h) rfl (by kernel_rfl) (by kernel_rfl) (by kernel_rfl) (by kernel_rfl) (by kernel_rfl) (by kernel_rfl) rfl rfl rfl (q_loadA rfl rfl (by exact .tail _ (.head _)) rfl) ?_
  refine aw_pure 1 rfl (by kernel_rfl) (by kernel_rfl) (by kernel_rfl) (by kernel_rfl) (by kernel_rfl) rfl rfl rfl (q_move rfl rfl) ?_
  refine aw_take 2 (fun w h => Cl.sel (by exact .take 0 rfl (.take 0 rfl (.nil _))) w h) rfl (by kernel_rfl) (by kernel_rfl) (by kernel_rfl) (by kernel_rfl) (by kernel_rfl) (by kernel_rfl) rfl rfl rfl (q_fieldAddr rfl rfl) ?_
  refine aw_take 3 (fun w h => Cl.sel (by exact .take 0 rfl (.take 0 rfl (.nil _))) w h) rfl (by kernel_rfl) (by kernel_rfl) (by kernel_rfl) (by kernel_rfl) (by kernel_rfl) (by kernel_rfl) rfl rfl rfl (q_loadC rfl rfl (by exact .tail _ (.head _)) rfl) ?_
  refine aw_take 4 (fun w h => Cl.sel (by exact .take 0 rfl (.take 0 rfl (.nil _))) w h) rfl (by kernel_rfl) (by kernel_rfl) (by kernel_rfl) (by kernel_rfl) (by kernel_rfl) (by kernel_rfl) rfl rfl rfl (q_sliceH rfl rfl rfl (by exact fun w hw => rd_own hw (by exact .head _)) (by intro hc; omega)) ?_
  refine aw_pure 5 rfl (by kernel_rfl) (by kernel_rfl) (by kernel_rfl) (by kernel_rfl) (by kernel_rfl) rfl rfl rfl (q_move rfl rfl) ?_
  refine aw_take 6 (fun w h => Cl.sel (by exact .take 0 rfl (.take 0 rfl (.nil _))) w h) rfl (by kernel_rfl) (by kernel_rfl) (by kernel_rfl) (by kernel_rfl) (by kernel_rfl) (by kernel_rfl) rfl rfl rfl (q_fieldAddr rfl rfl) ?_
  refine aw_take 7 (fun w h => Cl.sel (by exact .take 0 rfl (.take 0 rfl (.nil _))) w h) rfl (by kernel_rfl) (by kernel_rfl) (by kernel_rfl) (by kernel_rfl) (by kernel_rfl) (by kernel_rfl) rfl rfl rfl (q_loadC rfl rfl (by exact .tail _ (.head _)) rfl) ?_
  refine aw_take 8 (fun w h => Cl.sel (by exact .take 0 rfl (.take 0 rfl (.nil _))) w h) rfl (by kernel_rfl) (by kernel_rfl) (by kernel_rfl) (by kernel_rfl) (by kernel_rfl) (by kernel_rfl) rfl rfl rfl (q_sliceL rfl rfl rfl (by exact fun w hw => rd_own hw (by exact .head _)) (by intro hc; omega)) ?_
  refine aw_pure 9 rfl (by kernel_rfl) (by kernel_rfl) (by kernel_rfl) (by kernel_rfl) (by kernel_rfl) rfl rfl rfl (q_build (cells := mkC m s9) rfl (.cons rfl inferInstance (.cons rfl inferInstance (.cons rfl inferInstance (.nil)))) (by rfl)) ?_
  refine aw_x 10 (by kernel_rfl) rfl rfl rfl rfl (e_box rfl rfl rfl) (by intro hb; exact fun _ => (fun w h => Cl.sel (by exact .take 1 rfl (.take 1 rfl (.nil _))) w h)) (fun b20 => ?_)
  refine aw_pure 11 rfl (by kernel_rfl) (by kernel_rfl) (by kernel_rfl) (by kernel_rfl) (by kernel_rfl) rfl rfl rfl (q_assign rfl rfl) ?_
  refine aw_end (by kernel_rfl) ?_
  refine post_then ?_
  refine cw_ret ?_
  refine post_ret1 rfl (resOk_tmp rfl) ?_
  exact fun w' hw => ⟨(b20, s9), rfl, trivial, (fun w h => Cl.sel (by exact .take 0 rfl (.take 0 rfl (.nil _))) w h) _ hw⟩
theorem word_spec (m : Stamp) (msg : Int) (b : Nat) (s0 : SlV) (hm : rightS m = true) (hg : 0 ≤ msg ∧ msg < 65536) (w : World) (hk : Stb w [] (BlkAt b (mkC m s0) 108)) :
    Calls Try.prog 70 #[.pointer (some ⟨b, 0, none⟩), .int .i64 msg] w fun e w' => ∃ s : SlV, e = .returned s.v ∧ True ∧ Cl w [] [ownL 4 s.v (wordL m msg)] w' := by
  have hb := rightS_bd hm
  obtain ⟨⟨hb1, hb2⟩, _, ⟨hb5, hb6⟩, _⟩ := hb
  refine calls_cw (vs := [_, _]) Try.func70 rfl Try.ntmps70 rfl (Cl.start0 w) ?_
  refine cw_seq ?_
  -- region 0
  refine cw_region ?_
  refine sw_step rfl rfl rfl (OpR.q (q_assign rfl rfl)) ?_
  refine sw_nil ?_
  refine post_then ?_
  refine cw_seq ?_
  -- region 1
  refine cw_region ?_
  refine sw_step rfl rfl rfl (OpR.q (q_assign rfl rfl)) ?_
  refine sw_nil ?_
  refine post_then ?_
  refine cw_seq ?_
  refine cw_seq ?_
  -- region 2
  refine cw_region ?_
  refine sw_step rfl rfl rfl (OpR.q (q_move rfl rfl)) ?_
  refine sw_step rfl rfl rfl (OpR.q (q_nilCheck rfl rfl)) ?_
  refine sw_step rfl rfl rfl (OpR.q (q_fieldAddr rfl rfl)) ?_
  refine sw_step rfl rfl rfl (OpR.q (q_fieldAddr rfl rfl)) ?_
  refine sw_step rfl rfl rfl (OpR.q (q_loadS rfl rfl (fun w hw => Stb.cl (by assumption) hw) rfl)) ?_
  refine sw_step rfl rfl rfl (OpR.q (q_sub rfl rfl rfl (by intro hc; omega))) ?_
  refine sw_step rfl rfl rfl (OpR.q (q_assign rfl rfl)) ?_
  refine sw_nil ?_
  refine post_then ?_
  refine cw_block ?_
  -- STOP at: loop
  refine cw_loop (S := Nat × SlV) (fun x => [(0, [], .pointer (some ⟨b, 0, none⟩)), (1, [], .int .i64 msg), (5, [], x.2.v), (6, [], .int .i64 (m.bits - 1 - x.1))]) (fun x => Cl w [] [ownL 4 x.2.v (msgL m.bits.toNat msg x.1)]) (fun x => x.1 ≤ m.bits.toNat) (fun x => m.bits.toNat - x.1) (0, ⟨none, 0, 0⟩) (by simp) (by exact .cons rfl (.cons rfl (.cons rfl (.cons' rfl (by congr 1; first | omega | (simp only; omega)) .nil)))) (fun _ h => h.addNil (α := Bool) 4) ?_
  rintro ⟨k, s⟩ hk0
  have hlen := msgL_len m.bits.toNat msg k
  dsimp only at hk0 ⊢
  refine cw_seq ?_
  refine cw_seq ?_
  -- region 3
  refine cw_region ?_
  refine sw_step rfl rfl rfl (OpR.q (q_move rfl rfl)) ?_
  refine sw_step rfl rfl rfl (OpR.q (q_geq rfl rfl rfl)) ?_
  refine sw_nil ?_
  refine post_then ?_
  -- STOP at: cond
  refine cw_cond rfl (fun h => ?_) (fun h => ?_)
  · skip
    have h1 : k < m.bits.toNat := by simp at h; omega
    refine cw_skip ?_
    refine post_then ?_
    refine cw_seq ?_
    refine cw_block ?_
    -- region 5
    refine cw_region ?_
    refine sw_step rfl rfl rfl (OpR.q (q_move rfl rfl)) ?_
    refine sw_step rfl rfl rfl (OpR.q (q_move rfl rfl)) ?_
    refine sw_step rfl rfl rfl (OpR.q (q_move rfl rfl)) ?_
    refine sw_step rfl rfl rfl (OpR.q (q_shr rfl rfl rfl (by (dsimp only [IntKind.bits]; exact (by intro hc; omega))))) ?_
    refine sw_step rfl rfl rfl (OpR.q (q_and rfl rfl rfl)) ?_
    refine sw_step rfl rfl rfl (OpR.q (q_eql rfl rfl rfl)) ?_
    refine sw_x rfl rfl rfl (e_build1 (α := Bool) rfl rfl rfl rfl) (fun s25 => ?_)
    refine sw_x rfl rfl rfl (e_append (i := 1) rfl (.cons rfl inferInstance (.cons rfl inferInstance (.nil))) rfl rfl (by exact fun w hw => rd_own hw (by exact .head _)) (by simp only [List.length_set, List.length_append, List.length_cons, List.length_nil, List.length_replicate, List.length_take, List.length_drop, List.length_map]; omega) rfl) (fun s26 => ?_)
    refine sw_step rfl rfl rfl (OpR.q (q_assign rfl rfl)) ?_
    refine sw_nil ?_
    refine post_blk ?_
    refine post_then ?_
    -- region 4
    refine cw_region ?_
    refine sw_step rfl rfl rfl (OpR.q (q_move rfl rfl)) ?_
    refine sw_step rfl rfl rfl (OpR.q (q_sub rfl rfl rfl (by intro hc; omega))) ?_
    refine sw_step rfl rfl rfl (OpR.q (q_assign rfl rfl)) ?_
    refine sw_nil ?_
    refine post_next (k + 1, s26) (by exact .cons rfl (.cons rfl (.cons rfl (.cons' rfl (by congr 1; first | omega | (simp only; omega)) .nil)))) (fun w3 hw3 => ?_) (by simp only; omega) (by simp only; omega)
    dsimp only
    rw [msgL_succ]
    rw [bit_eq hg, show m.bits - 1 - (k : Int) = (m.bits.toNat : Int) - 1 - k by omega] at hw3
    exact (fun w h => Cl.sel (by exact .take 1 rfl (.nil _)) w h) _ hw3
  · skip
    have h1 : k = m.bits.toNat := by simp at h; omega
    subst h1
    refine cw_exit ?_
    refine post_then_x ?_
    refine post_then_x ?_
    refine post_blk_eq ?_
    refine post_then ?_
    refine cw_seq ?_
    refine cw_seq ?_
    -- region 6
    refine cw_region ?_
    refine sw_step rfl rfl rfl (OpR.q (q_move rfl rfl)) ?_
    refine sw_step rfl rfl rfl (OpR.q (q_nilCheck rfl rfl)) ?_
    refine sw_step rfl rfl rfl (OpR.q (q_fieldAddr rfl rfl)) ?_
    refine sw_step rfl rfl rfl (OpR.q (q_fieldAddr rfl rfl)) ?_
    refine sw_step rfl rfl rfl (OpR.q (q_loadS rfl rfl (fun w hw => Stb.cl (by assumption) hw) rfl)) ?_
    refine sw_step rfl rfl rfl (OpR.q (q_add rfl rfl rfl (by intro hc; omega))) ?_
    refine sw_step rfl rfl rfl (OpR.q (q_move rfl rfl)) ?_
    refine sw_step rfl rfl rfl (OpR.q (q_add rfl rfl rfl (by intro hc; omega))) ?_
    -- STOP at: t35  := call {callee=(value F67), args=[t34, 64:i64], argTypes=[3, 3]} :37
    refine sw_x rfl rfl rfl (e_call (CanCall.mk Try.call67) rfl (.cons rfl inferInstance (.cons rfl inferInstance (.nil))) (fun w hw => chips_spec (m.key + 1 + msg) 64 (by decide) w)) (fun s35 => ?_)
    refine sw_imp fun _ => ?_
    have hlen3 := chipsL_len (m.key + 1 + msg) 64
    refine sw_step rfl rfl rfl (OpR.q (q_sliceL rfl rfl rfl (by exact fun w hw => rd_own hw (by exact .head _)) (by intro hc; omega))) ?_
    refine sw_step rfl rfl rfl (OpR.q (q_lenV rfl (.cons rfl inferInstance (.nil)))) ?_
    refine sw_step rfl rfl rfl (OpR.q (q_move rfl rfl)) ?_
    refine sw_nil ?_
    refine post_then ?_
    refine cw_block ?_
    -- STOP at: loop
    refine cw_loop (S := Nat × SlV) (fun x => [(5, [], x.2.v), (36, [], (s35.sub 1 48 64).v), (37, [], .int .i64 16), (38, [], .int .i64 x.1)]) (fun x => Cl w [] [ownL 4 x.2.v (msgL m.bits.toNat msg m.bits.toNat ++ tailL m.key msg x.1), ownL 3 s35.v (chipsL (m.key + 1 + msg) 64)]) (fun x => x.1 ≤ 16) (fun x => 16 - x.1) (0, s) (by simp) (by exact .cons rfl (.cons rfl (.cons rfl (.cons rfl .nil)))) (fun _ h => by simpa [tailL] using (fun w h => Cl.sel (by exact .take 1 rfl (.take 0 rfl (.nil _))) w h) _ h) ?_
    rintro ⟨k, s'⟩ hk1
    have hlen2 := tailL_len m.key msg k
    have hsub : ∀ w1, Cl w [] [ownL 4 s'.v (msgL m.bits.toNat msg m.bits.toNat ++ tailL m.key msg k), ownL 3 s35.v (chipsL (m.key + 1 + msg) 64)] w1 → RdL (s35.sub 1 48 64).v (((chipsL (m.key + 1 + msg) 64).take 64).drop 48) w1 := fun w1 h1 => rd_sub (rd_own (e := 3) h1 (by simp)) (by decide) (by rw [hlen3]; exact Nat.le_refl _)
    have hlen4 : (((chipsL (m.key + 1 + msg) 64).take 64).drop 48).length = 16 := by simp [hlen3]
    have hnth : ∀ k, k < 16 → nth (((chipsL (m.key + 1 + msg) 64).take 64).drop 48) k = nth (chipsL (m.key + 1 + msg) 64) (48 + k) := fun k hk => by
      rw [nth_get (by omega), nth_get (by omega)]; simp
    dsimp only at hk1 ⊢
    refine cw_seq ?_
    -- region 7
    refine cw_region ?_
    refine sw_step rfl rfl rfl (OpR.q (q_lss rfl rfl rfl)) ?_
    refine sw_nil ?_
    refine post_then ?_
    refine cw_seq ?_
    -- STOP at: cond
    refine cw_cond rfl (fun h => ?_) (fun h => ?_)
    · skip
      have h1 : k < 16 := by simp at h; omega
      refine cw_skip ?_
      refine post_then ?_
      refine cw_seq ?_
      refine cw_block ?_
      refine cw_seq ?_
      -- region 8
      refine cw_region ?_
      refine sw_step rfl rfl rfl (OpR.q (q_indexN rfl rfl rfl (by assumption) (by intro hc; omega))) ?_
      refine sw_step rfl rfl rfl (OpR.q (q_loadEl rfl rfl rfl (by assumption) (by intro hc; omega))) ?_
      refine sw_step rfl rfl rfl (OpR.q (q_assign rfl rfl)) ?_
      refine sw_nil ?_
      refine post_then ?_
      -- region 9
      refine cw_region ?_
      refine sw_step rfl rfl rfl (OpR.q (q_move rfl rfl)) ?_
      refine sw_step rfl rfl rfl (OpR.q (q_move rfl rfl)) ?_
      refine sw_step rfl rfl rfl (OpR.q (q_eql rfl rfl rfl)) ?_
      refine sw_x rfl rfl rfl (e_build1 (α := Bool) rfl rfl rfl rfl) (fun s45 => ?_)
      refine sw_x rfl rfl rfl (e_append (i := 1) rfl (.cons rfl inferInstance (.cons rfl inferInstance (.nil))) rfl rfl (by exact fun w hw => rd_own hw (by exact .head _)) (by simp only [List.length_set, List.length_append, List.length_cons, List.length_nil, List.length_replicate, List.length_take, List.length_drop, List.length_map]; omega) rfl) (fun s46 => ?_)
      refine sw_step rfl rfl rfl (OpR.q (q_assign rfl rfl)) ?_
      refine sw_nil ?_
      refine post_blk ?_
      refine post_then ?_
      -- region 10
      refine cw_region ?_
      refine sw_step rfl rfl rfl (OpR.q (q_add rfl rfl rfl (by intro hc; omega))) ?_
      refine sw_step rfl rfl rfl (OpR.q (q_move rfl rfl)) ?_
      refine sw_nil ?_
      refine post_next (k + 1, s46) (by exact .cons rfl (.cons rfl (.cons rfl (.cons rfl .nil)))) (fun w3 hw3 => ?_) (by simp only; omega) (by simp only; omega)
      dsimp only
      rw [tailL_succ, ← List.append_assoc]
      rw [hnth k h1, chip_eq _ _ _ (by omega)] at hw3
      exact (fun w h => Cl.sel (by exact .take 1 rfl (.take 1 rfl (.nil _))) w h) _ hw3
    · skip
      have h1 : k = 16 := by simp at h; omega
      subst h1
      refine cw_exit ?_
      refine post_then_x ?_
      refine post_then_x ?_
      refine post_blk_eq ?_
      refine post_then ?_
      refine cw_seq ?_
      -- region 11
      refine cw_region ?_
      refine sw_step rfl rfl rfl (OpR.q (q_move rfl rfl)) ?_
      refine sw_step rfl rfl rfl (OpR.q (q_assign rfl rfl)) ?_
      refine sw_nil ?_
      refine post_then ?_
      refine cw_ret ?_
      refine post_ret1 rfl (resOk_tmp rfl) ?_
      exact fun w' hw => ⟨s', rfl, trivial, (fun w h => Cl.sel (by exact .take 0 rfl (.nil _)) w h) _ hw⟩
end Go.Proofs.Ytekikelejncgeaa
