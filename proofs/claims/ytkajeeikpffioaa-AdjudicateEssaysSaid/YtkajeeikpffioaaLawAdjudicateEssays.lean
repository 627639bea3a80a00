/- The law AdjudicateEssays returns true for every input, and each argument reads behind the call as it read before. Conditions: none beyond the statement's own. -/
import Derived.Test.YtkajeeikpffioaaRows
import Derived.Test.YtkajeeikpffioaaAllx21
import Derived.Test.YtkajeeikpffioaaOpens
import Derived.Test.YtkajeeikpffioaaPureAdjudicateEssays
import Derived.WalkKit
import Derived.ProofKit
import Derived.OpenShut
import Derived.ShutString
import Derived.ChangeOld
import Derived.Below
import Derived.SizedLaws
namespace Go.Proofs.Ytkajeeikpffioaa.adjudicateEssays
open Go.ChangeShapes Go.WideShapes Go.ChangeAt Go.RowKit Go.Proofs.Ytkajeeikpffioaa.All Go.Proofs.Ytkajeeikpffioaa.Opener Go.Proofs.YtkajeeikpffioaaW.PrintWords
set_option linter.unusedVariables false
theorem own : ownKnob Try.prog.godebug = none := by kernel_rfl
theorem laidOut : laidOutB Try.prog = true := by kernel_rfl
set_option maxRecDepth 100000 in
set_option maxHeartbeats 1000000 in
theorem lifted (os : Os) (started : os.Started) (H : Type) (enc : TypeId × Value → H) :
    ReturnsInHanded {} Try.checked os 7 .any (Rows.adjudicateEssaysSpec.pre6 enc Try.prog Try.f7 Rows.adjudicateEssaysRow.domain false) (Rows.adjudicateEssaysSpec.post enc Try.prog Try.f7 false true false false) := by
  refine returnsInHanded_of_change_sized (C := Try.checked) own started (by kernel_rfl) Try.func7
    (ChangeSpec.witness6 (enc := enc) (C := Try.checked) false ⟨#[], #[.agg #[.int .i64 0, .int .i64 0], .agg #[.int .i64 0, .slice none 0 0], .slice none 0 0, .int .i64 0], []⟩ 8 (by kernel_rfl) (by kernel_rfl) (by kernel_rfl) (by kernel_rfl)) ?_
  intro W base args ds gs before hval0 hW hcnd hsz0 _
  have hsz : (DataW.weightsEach Try.prog (Try.f7.params.toList ++ Rows.adjudicateEssaysSpec.plain.varTypes Try.prog) (ds ++ gs)).all (· ≤ reachBytes) = true := hsz0
  have hval : ∀ (j : Nat) t v, Try.f7.params[j]? = some t → args[j]? = some v → Value.okWide Try.prog W .any base t v := hval0
  have hW' := hW
  obtain ⟨p, q, hA0, hV, rfl, hfz, hnd⟩ := hW
  have hA : DataW.TrodAll enc Try.prog W 0 (fun _ => true) true Try.f7.params.toList args.toList ds p := hA0
  rw [Try.params7] at hA hval hsz
  obtain ⟨v0, vs0, d0, ds0, p0, q0, hargs, rfl, rfl, h0, r0⟩ := trodAll_cons hA
  obtain ⟨v1, vs1, d1, ds1, p1, q1, rfl, rfl, rfl, h1, r1⟩ := trodAll_cons r0
  obtain ⟨v2, vs2, d2, ds2, p2, q2, rfl, rfl, rfl, h2, r2⟩ := trodAll_cons r1
  obtain ⟨v3, vs3, d3, ds3, p3, q3, rfl, rfl, rfl, h3, r3⟩ := trodAll_cons r2
  obtain ⟨rfl, rfl, rfl⟩ := trodAll_nil r3
  obtain rfl : args = #[v0, v1, v2, v3] := by cases args; simp_all
  obtain ⟨rfl, rfl⟩ := trodVars_none hV
  have kk0 := h0
  have lt0 := Opens.places kk0
  obtain ⟨⟨a0_0, a0_1⟩, hk0, ok0⟩ := o23.arg hsz (j := 0) rfl rfl h0
  obtain ⟨cs0, rfl, _⟩ := okWide_struct Try.underlying23 (hval 0 23 v0 rfl rfl)
  obtain ⟨_, _, hcs0, rfl, rfl⟩ := hk0
  obtain rfl : cs0 = #[.int .i64 a0_0, .int .i64 a0_1] := by obtain ⟨cl⟩ := cs0; simp [Value.cells] at hcs0; rw [hcs0]
  have kk1 := h1
  have lt1 := Opens.places kk1
  obtain ⟨⟨a1_0, l1_1⟩, hk1, ok1⟩ := o26.arg hsz (j := 1) rfl rfl h1
  obtain ⟨cs1, rfl, _⟩ := okWide_struct Try.underlying26 (hval 1 26 v1 rfl rfl)
  obtain ⟨_, _, hcs1, rfl, ⟨A1_1, c1_1, rfl, hc1_1, hr1_1⟩⟩ := hk1
  obtain rfl : cs1 = #[.int .i64 a1_0, .slice A1_1 l1_1.length c1_1] := by obtain ⟨cl⟩ := cs1; simp [Value.cells] at hcs1; rw [hcs1]
  have kk2 := h2
  have lt2 := Opens.places kk2
  obtain ⟨l2, ⟨A2, c2, hcs2, hc2, hr2⟩, ok2⟩ := o27.arg hsz (j := 2) rfl rfl h2
  obtain ⟨b2, len2, cap2, rfl⟩ := okWide_slice Try.underlying27 (hval 2 27 v2 rfl rfl)
  simp [Value.cells] at hcs2
  obtain ⟨rfl, rfl, rfl⟩ := hcs2
  have kk3 := h3
  have lt3 := Opens.places kk3
  obtain ⟨a3, rfl, rfl, rfl, w3⟩ := open_int Try.underlying3 (hval 3 3 v3 rfl rfl) h3
  obtain ⟨k, hk⟩ := Pure.AdjudicateEssays a0_0 a0_1 a1_0 l1_1 l2 a3 ok0 ok1 ok2 (bounds_i64 w3)
  clear hA0 hval0 hsz0 hsz
  refine (All.examboardlaw43_AdjudicateEssays.calls k a0_0 a0_1 a1_0 A1_1 c1_1 l1_1 b2 cap2 l2 a3 true W hr1_1 hc1_1 hr2 hc2 hk).mono fun e W' ⟨he, bel⟩ => ?_
  subst he
  exact ⟨_, rfl, _, _, _, [], _, [], hW', trodAll_mk1 (shut_bool Try.underlying4 _), (trodAll_cons_mk (Below.trod laidOut (by kernel_rfl) (of_decide_eq_true (by kernel_rfl)) kk0 bel lt0) (trodAll_cons_mk (Below.trod laidOut (by kernel_rfl) (of_decide_eq_true (by kernel_rfl)) kk1 bel lt1) (trodAll_cons_mk (Below.trod laidOut (by kernel_rfl) (of_decide_eq_true (by kernel_rfl)) kk2 bel lt2) (trodAll_cons_mk (Below.trod laidOut (by kernel_rfl) (of_decide_eq_true (by kernel_rfl)) kk3 bel lt3) trodAll_mk0)))), rfl, bel.frame _, fun h => by cases h⟩
theorem over : Rows.adjudicateEssaysRow.holds Try.pinned (OpenSpec.ofChange Rows.adjudicateEssaysSpec) :=
  OpenClaim.holds_of_wide 7 Try.f7 rfl rfl rfl rfl rfl rfl rfl ⟨rfl, rfl, rfl, rfl, rfl⟩ rfl rfl rfl rfl rfl (by kernel_rfl) Try.func7 (by kernel_rfl)
    (of_decide_eq_true (by kernel_rfl)) (by unfold Func.isWrapper; first | (rw [if_pos (by decide +kernel)]; kernel_rfl) | (rw [if_neg (by decide +kernel)]; exact ⟨rfl, rfl⟩))
    (fun os started H enc _ => lifted os started H enc)
theorem proved : Rows.AdjudicateEssaysSaid := over
#print axioms proved
end Go.Proofs.Ytkajeeikpffioaa.adjudicateEssays
namespace Go.Proofs.Ytkajeeikpffioaa
/-- The row, under a short name, for the claim. -/
theorem adjudicateEssays_holds : Rows.AdjudicateEssaysSaid := adjudicateEssays.proved
end Go.Proofs.Ytkajeeikpffioaa
