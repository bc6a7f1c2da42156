import Derived.Test.YtekikelejncgeaaRows
import Derived.Test.YtekikelejncgeaaZM
import Derived.Test.YtekikelejncgeaaIn
set_option autoImplicit false
set_option linter.unusedSimpArgs false
set_option linter.unusedVariables false
set_option linter.unusedVariables false
namespace Go.Proofs.Ytekikelejncgeaa.houseSurvives
open Go.ChangeShapes Go.WideShapes Go.ChangeAt Go.RowKit Go.Sx

theorem own : ownKnob Try.prog.godebug = none := by kernel_rfl
theorem laid : laidOutB Try.prog = true := by kernel_rfl
theorem rowed : ∀ t ∈ Try.f14.params.toList, Try.prog.readableRec t = true ∧ t < Try.prog.types.size := by
  rw [Try.params14]
  intro t ht
  change t ∈ [37, 55, 3, 3, 3, 3, 3, 37, 3, 3] at ht
  simp only [List.mem_cons, List.not_mem_nil, or_false] at ht
  rcases ht with rfl | rfl | rfl | rfl | rfl | rfl | rfl | rfl | rfl | rfl <;> exact ⟨by kernel_rfl, of_decide_eq_true (by kernel_rfl)⟩

set_option maxRecDepth 100000 in
theorem lifted (os : Os) (started : os.Started) (H : Type) (enc : TypeId × Value → H) :
    ReturnsInHanded {} Try.checked os 14 .any (Rows.houseSurvivesSpec.pre6 enc Try.prog Try.f14 Rows.houseSurvivesRow.domain false) (Rows.houseSurvivesSpec.post enc Try.prog Try.f14 false true false false) := by
  refine returnsInHanded_of_change (C := Try.checked) own started (by kernel_rfl) Try.func14
    (ChangeSpec.witness6 (enc := enc) (C := Try.checked) false ⟨#[], #[.slice none 0 0, .agg #[.int .i64 0, .int .i64 0, .int .i64 0, .int .i64 0], .int .i64 0, .int .i64 0, .int .i64 0, .int .i64 0, .int .i64 0, .slice none 0 0, .int .i64 0, .int .i64 0], []⟩ 8 (by kernel_rfl) (by kernel_rfl) (by kernel_rfl) (by kernel_rfl)) ?_
  intro W base args ds gs before hval0 hW hcnd _
  have hval : ∀ (j : Nat) t v, Try.f14.params[j]? = some t → args[j]? = some v → Value.okWide Try.prog W .any base t v := hval0
  have hW' := hW
  have hlt := hW.lt
  obtain ⟨p, q, hA0, hV, rfl, hfz, hnd⟩ := hW
  have hA : DataW.TrodAll enc Try.prog W 0 (fun _ => true) true Try.f14.params.toList args.toList ds p := hA0
  have hkeep := fun (W' : World) (hb : Below W.heap.size W W') (sp : Nat → Bool) (hsp : ∀ x ∈ p, sp x.block = true) => trodAll_keep laid hb sp rowed hA (fun x hx => hlt x (by simp [hx])) hsp
  rw [Try.params14] at hA hval
  obtain ⟨v0, vs0, d0, ds0, p0, q0, hargs, rfl, rfl, h0, r0⟩ := trodAll_cons hA
  obtain ⟨v1, vs1, d1, ds1, p1, q1, rfl, rfl, rfl, h1, r1⟩ := trodAll_cons r0
  obtain ⟨v2, vs2, d2, ds2, p2, q2, rfl, rfl, rfl, h2, r2⟩ := trodAll_cons r1
  obtain ⟨v3, vs3, d3, ds3, p3, q3, rfl, rfl, rfl, h3, r3⟩ := trodAll_cons r2
  obtain ⟨v4, vs4, d4, ds4, p4, q4, rfl, rfl, rfl, h4, r4⟩ := trodAll_cons r3
  obtain ⟨v5, vs5, d5, ds5, p5, q5, rfl, rfl, rfl, h5, r5⟩ := trodAll_cons r4
  obtain ⟨v6, vs6, d6, ds6, p6, q6, rfl, rfl, rfl, h6, r6⟩ := trodAll_cons r5
  obtain ⟨v7, vs7, d7, ds7, p7, q7, rfl, rfl, rfl, h7, r7⟩ := trodAll_cons r6
  obtain ⟨v8, vs8, d8, ds8, p8, q8, rfl, rfl, rfl, h8, r8⟩ := trodAll_cons r7
  obtain ⟨v9, vs9, d9, ds9, p9, q9, rfl, rfl, rfl, h9, r9⟩ := trodAll_cons r8
  obtain ⟨rfl, rfl, rfl⟩ := trodAll_nil r9
  obtain rfl : args = #[v0, v1, v2, v3, v4, v5, v6, v7, v8, v9] := by cases args; simp_all
  obtain ⟨rfl, rfl⟩ := trodVars_none hV
  obtain ⟨a0, b0, rfl, k0⟩ := open_deep (hval 0 37 v0 rfl rfl) h0
  have k0 := stb_flat (fun a b w h => h.1) k0
  obtain ⟨a1, b1, rfl, k1⟩ := open_deep (hval 1 55 v1 rfl rfl) h1
  obtain rfl := k1.here
  obtain ⟨a2, b2, rfl, k2⟩ := open_deep (hval 2 3 v2 rfl rfl) h2
  obtain ⟨rfl, w2⟩ := k2.here
  obtain ⟨a3, b3, rfl, k3⟩ := open_deep (hval 3 3 v3 rfl rfl) h3
  obtain ⟨rfl, w3⟩ := k3.here
  obtain ⟨a4, b4, rfl, k4⟩ := open_deep (hval 4 3 v4 rfl rfl) h4
  obtain ⟨rfl, w4⟩ := k4.here
  obtain ⟨a5, b5, rfl, k5⟩ := open_deep (hval 5 3 v5 rfl rfl) h5
  obtain ⟨rfl, w5⟩ := k5.here
  obtain ⟨a6, b6, rfl, k6⟩ := open_deep (hval 6 3 v6 rfl rfl) h6
  obtain ⟨rfl, w6⟩ := k6.here
  obtain ⟨a7, b7, rfl, k7⟩ := open_deep (hval 7 37 v7 rfl rfl) h7
  have k7 := stb_flat (fun a b w h => h.1) k7
  obtain ⟨a8, b8, rfl, k8⟩ := open_deep (hval 8 3 v8 rfl rfl) h8
  obtain ⟨rfl, w8⟩ := k8.here
  obtain ⟨a9, b9, rfl, k9⟩ := open_deep (hval 9 3 v9 rfl rfl) h9
  obtain ⟨rfl, w9⟩ := k9.here
  clear hA0 hval0
  refine (lawSurvives a0 a7 b0 b7 a1 a2 a3 a4 a5 a6 a8 a9 W k0 k7).mono fun e W' ⟨he, hc⟩ => ?_
  subst he
  have hb := below_of hc
  exact ⟨_, rfl, _, _, _, [], _, [], hW', trodAll_cons_mk (shut_bool Try.underlying4 _) trodAll_mk0, hkeep W' hb _ (fun x hx => by simpa using hlt x (by simpa using hx)), rfl, hb.frame _, fun h => by cases h⟩

theorem over : Rows.houseSurvivesRow.holds Try.pinned (OpenSpec.ofChange Rows.houseSurvivesSpec) :=
  OpenClaim.holds_of_wide 14 Try.f14 rfl rfl rfl rfl rfl rfl rfl ⟨rfl, rfl, rfl, rfl, rfl⟩ rfl rfl rfl rfl rfl (by kernel_rfl) Try.func14 (by kernel_rfl)
    (of_decide_eq_true (by kernel_rfl)) (by unfold Func.isWrapper; first | (rw [if_pos (by decide +kernel)]; kernel_rfl) | (rw [if_neg (by decide +kernel)]; exact ⟨rfl, rfl⟩))
    (fun os started H enc _ => lifted os started H enc)

theorem proved : Rows.HouseSurvivesSaid := over
#print axioms proved
end Go.Proofs.Ytekikelejncgeaa.houseSurvives
