/- Valid, Agree, Need and Score return what the document defines, or the first error: the plain statement. -/
import Derived.Test.YtkajeeikpffioaaAllx19
import Derived.Test.YtkajeeikpffioaaFits
import Derived.Test.YtkajeeikpffioaaRefSpec
set_option linter.unusedVariables false
namespace Go.Proofs.Ytkajeeikpffioaa.Pure
open Go.RowKit Go.Proofs.YtkajeeikpffioaaW.PrintWords Go.Proofs.Ytkajeeikpffioaa.All Go.Proofs.Ytkajeeikpffioaa.Opener Go.Proofs.Ytkajeeikpffioaa.Spec
theorem AdjudicateScores (g u id : Int) (ts : List S59) (l : List (List Int)) (hA : IntOk g ∧ IntOk u) (hB : RubricFits (id, ts)) (hL : RowOk 24 (RowOk 8 IntOk) l) :
    ∃ k, examboardlaw43_AdjudicateScores.f k g u id ts l = some true := by
  have hn := names_fit hB
  have hsm : Sm l := row_sm hL (by omega)
  refine Ev.rounds (g := fun k => examboardlaw43_AdjudicateScores.f k g u id ts l) ?_
  unfold examboardlaw43_AdjudicateScores.f
  refine Ev.bind (need_ev g u id ts l hn hsm) (Ev.bind (rneed_ev g u id ts l hn hsm) (Ev.bind (score_ev g u id ts l hn hsm) (Ev.bind (rscore_ev g u id ts l hn hsm) (Ev.bind (rule_ev g u) (Ev.bind (rrule_ev g u) (Ev.iteP rfl (Ev.iteP rfl (Ev.iteP rfl (Ev.iteP rfl (Ev.up ?_))))))))))
  simp only [examboardlaw43_AdjudicateScores.j0]
  refine Ev.iteN (by simp) (Ev.iteC (fun h => aw_ev) (fun h => Ev.iteP (by omega) (Ev.iteP (by omega) ?_)))
  exact Ev.bind (agree_ev g u id ts _ _ hn) (Ev.bind (ragree_ev g u id ts _ _ hn) (Ev.iteP (by simp) (Ev.iteP rfl aw_ev)))
end Go.Proofs.Ytkajeeikpffioaa.Pure
