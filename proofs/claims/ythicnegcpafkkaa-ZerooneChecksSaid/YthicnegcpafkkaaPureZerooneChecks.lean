/- The first rule that a program violates, and its bound, are those of the reference: the plain statement. -/
import Derived.Test.YthicnegcpafkkaaAllx9
import Derived.Test.YthicnegcpafkkaaSpan
set_option linter.unusedVariables false
namespace Go.Proofs.Ythicnegcpafkkaa.Pure
open Go.RowKit Go.Proofs.YthicnegcpafkkaaW.PrintWords Go.Proofs.Ythicnegcpafkkaa.All Go.Proofs.Ythicnegcpafkkaa.Opener Go.Proofs.Ythicnegcpafkkaa.Spec
theorem ZerooneChecks (v : List Int) (rs : List S45) (fx : List Int) (h : ProblemFits (v, rs, fx)) : ∃ k, examboardlaw34_ZerooneChecks.f k v rs fx = some true := by
  have hcs := coefs_fit h.2.1
  refine Ev.rounds (g := fun k => examboardlaw34_ZerooneChecks.f k v rs fx) ?_
  unfold examboardlaw34_ZerooneChecks.f
  refine Ev.bind (bound_ev v rs fx hcs) (Ev.bind (rbound_ev v rs fx) (Ev.bind (valid_ev v rs fx hcs) (Ev.bind (rvalid_ev v rs fx) ?_)))
  refine Ev.iteP rfl (Ev.iteP rfl ?_)
  simpa using Ev.now true
end Go.Proofs.Ythicnegcpafkkaa.Pure
