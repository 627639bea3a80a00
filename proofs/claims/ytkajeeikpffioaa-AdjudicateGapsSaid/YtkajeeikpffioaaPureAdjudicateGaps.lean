/- Agreement is symmetric and reflexive, and a larger gap never ends an agreement: the plain statement. -/
import Derived.Test.YtkajeeikpffioaaAllx35
import Derived.Test.YtkajeeikpffioaaFits
set_option linter.unusedVariables false
namespace Go.Proofs.Ytkajeeikpffioaa.Pure
open Go.RowKit Go.Proofs.YtkajeeikpffioaaW.PrintWords Go.Proofs.Ytkajeeikpffioaa.All Go.Proofs.Ytkajeeikpffioaa.Opener Go.Proofs.Ytkajeeikpffioaa.Spec
theorem apart_comm : ∀ (x y : List Int) (s : Int), apartS x y s = apartS y x s
  | [], [], _ => rfl
  | [], _ :: _, _ => rfl
  | _ :: _, [], _ => rfl
  | a :: x, b :: y, s => by
    simp only [apartS]
    rw [apart_comm x y, show max (max s (a - b)) (b - a) = max (max s (b - a)) (a - b) by omega]
theorem apart_self : ∀ (x : List Int) (s : Int), 0 ≤ s → apartS x x s = s
  | [], _, _ => rfl
  | a :: x, s, h => by
    simp only [apartS]
    rw [show max (max s (a - a)) (a - a) = s by omega]
    exact apart_self x s h
theorem first_two (id : Int) (ts : List S59) (x y : List Int) : firstV id ts [x, y] = 0 ↔ checkV id ts x = 0 ∧ checkV id ts y = 0 := by
  refine ⟨first2, fun h => ?_⟩
  simp only [firstV]
  rw [if_pos h.1, if_pos h.2]
theorem agree_zero {g u id : Int} {ts : List S59} {x y : List Int} : (agreeV g u id ts x y).2 = 0 ↔ ruleV g u = 0 ∧ firstV id ts [x, y] = 0 := by
  unfold agreeV apartV
  by_cases h1 : ruleV g u = 0
  · rw [if_pos h1]
    by_cases h2 : firstV id ts [x, y] = 0
    · simp [h1, h2]
    · simp [h1, h2]
  · rw [if_neg h1]; simp [h1]
theorem agree_ok {g u id : Int} {ts : List S59} {x y : List Int} (h : ruleV g u = 0) (h2 : firstV id ts [x, y] = 0) : agreeV g u id ts x y = (decide (apartS x y 0 ≤ g), 0) := by
  unfold agreeV apartV
  rw [if_pos h, if_pos h2]; rfl
theorem agree_not {g u id : Int} {ts : List S59} {x y : List Int} (h : (agreeV g u id ts x y).2 ≠ 0) : (agreeV g u id ts x y).1 = false := by
  unfold agreeV at h ⊢
  by_cases h1 : ruleV g u = 0
  · rw [if_pos h1] at h ⊢
    by_cases h2 : (apartV id ts x y).2 = 0
    · rw [if_pos h2] at h; exact absurd rfl h
    · rw [if_neg h2]
  · rw [if_neg h1]
theorem rule_zero {g u : Int} : ruleV g u = 0 ↔ (0 ≤ g ∧ g ≤ 10) ∧ 1 ≤ u ∧ u ≤ 3 := by
  unfold ruleV
  by_cases h : g < 0 ∨ 10 < g
  · rw [if_pos h]; constructor
    · intro h2; exact absurd h2 (by decide)
    · intro h2; omega
  · rw [if_neg h]
    by_cases h2 : u < 1 ∨ 3 < u
    · rw [if_pos h2]; constructor
      · intro h3; exact absurd h3 (by decide)
      · intro h3; omega
    · rw [if_neg h2]; constructor
      · intro _; omega
      · intro _; rfl
theorem AdjudicateGaps (g u id : Int) (ts : List S59) (x y : List Int) (gap : Int) (hA : IntOk g ∧ IntOk u) (hB : RubricFits (id, ts)) (_ : RowOk 8 IntOk x) (_ : RowOk 8 IntOk y) (_ : IntOk gap) :
    ∃ k, examboardlaw43_AdjudicateGaps.f k g u id ts x y gap = some true := by
  have hn := names_fit hB
  refine Ev.rounds (g := fun k => examboardlaw43_AdjudicateGaps.f k g u id ts x y gap) ?_
  unfold examboardlaw43_AdjudicateGaps.f
  refine Ev.bind (agree_ev g u id ts x y hn) (Ev.bind (agree_ev g u id ts y x hn) ?_)
  have hsym : firstV id ts [x, y] = 0 ↔ firstV id ts [y, x] = 0 := by rw [first_two, first_two]; exact And.comm
  have hz : (agreeV g u id ts x y).2 = 0 ↔ (agreeV g u id ts y x).2 = 0 := by rw [agree_zero, agree_zero, hsym]
  have h1 : (agreeV g u id ts x y).1 = (agreeV g u id ts y x).1 := by
    by_cases h : (agreeV g u id ts x y).2 = 0
    · obtain ⟨hr, hf⟩ := agree_zero.1 h
      rw [agree_ok hr hf, agree_ok hr (hsym.1 hf), apart_comm]
    · rw [agree_not h, agree_not (fun q => h (hz.2 q))]
  have hne : ((agreeV g u id ts x y).2 == 0) = ((agreeV g u id ts y x).2 == 0) := by
    by_cases h : (agreeV g u id ts x y).2 = 0
    · rw [beq_iff_eq.2 h, beq_iff_eq.2 (hz.1 h)]
    · rw [beq_eq_false_iff_ne.2 h, beq_eq_false_iff_ne.2 (fun q => h (hz.2 q))]
  refine Ev.iteN (by rw [hne]; simp) ?_
  rw [h1]
  rw [show ((agreeV g u id ts y x).1 != (agreeV g u id ts y x).1) = false by simp]
  rw [← h1]
  refine Ev.up ?_
  simp only [examboardlaw43_AdjudicateGaps.j0]
  refine Ev.iteN (by simp) (Ev.iteC (fun h => ?_) (fun h => ?_))
  · obtain ⟨hr, hf⟩ := agree_zero.1 h
    obtain ⟨hg, hu⟩ := rule_zero.1 hr
    have hxx : firstV id ts [x, x] = 0 := (first_two id ts x x).2 ⟨((first_two id ts x y).1 hf).1, ((first_two id ts x y).1 hf).1⟩
    refine Ev.bind (agree_ev g u id ts x x hn) (Ev.bind (agree_ev gap u id ts x y hn) ?_)
    rw [agree_ok hr hxx, apart_self x 0 (Int.le_refl _), agree_ok hr hf]
    refine Ev.iteP (decide_eq_true hg.1) (Ev.iteP rfl ?_)
    by_cases hgap : 0 ≤ gap ∧ gap ≤ 10
    · have hr2 : ruleV gap u = 0 := rule_zero.2 ⟨hgap, hu⟩
      rw [agree_ok hr2 hf]
      refine Ev.iteP rfl (Ev.iteC (fun q => ?_) (fun q => ?_))
      · exact Ev.iteP (by omega) (Ev.iteP (by simp; omega) aw_ev)
      · refine Ev.iteC (fun q2 => Ev.iteP ?_ (Ev.iteP (by omega) (Ev.iteP (by simp; omega) aw_ev))) (fun q2 => Ev.iteP (by omega) (Ev.iteP (by simp; omega) aw_ev))
        have := of_decide_eq_true q2
        exact decide_eq_true (by omega)
    · have hr2 : (agreeV gap u id ts x y).2 ≠ 0 := fun q => hgap (rule_zero.1 (agree_zero.1 q).1).1
      have hb : ((agreeV gap u id ts x y).2 == 0) = false := by simpa using hr2
      refine Ev.iteN hr2 (Ev.iteC (fun q => ?_) (fun q => ?_))
      · exact Ev.iteP (by rw [hb]; simp; omega) aw_ev
      · exact Ev.iteP (by rw [hb]; simp) aw_ev
  · exact Ev.iteN (by rw [agree_not h]; simp) aw_ev
end Go.Proofs.Ytkajeeikpffioaa.Pure
