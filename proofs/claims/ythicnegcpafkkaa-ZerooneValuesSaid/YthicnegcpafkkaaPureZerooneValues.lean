/- Whether numbers are a feasible assignment of a program, and their value, are those of the reference: the plain statement. -/
import Derived.Test.YthicnegcpafkkaaAllx20
import Derived.Test.YthicnegcpafkkaaValues
set_option linter.unusedVariables false
namespace Go.Proofs.Ythicnegcpafkkaa.Pure
open Go.RowKit Go.Proofs.YthicnegcpafkkaaW.PrintWords Go.Proofs.Ythicnegcpafkkaa.All Go.Proofs.Ythicnegcpafkkaa.Opener Go.Proofs.Ythicnegcpafkkaa.Spec
theorem ZerooneValues (v : List Int) (rs : List S45) (fx x : List Int) (h : ProblemFits (v, rs, fx)) (hx : RowOk 8 IntOk x) : ∃ k, examboardlaw34_ZerooneValues.f k v rs fx x = some true := by
  have hcs := coefs_fit h.2.1
  have hxl : x.length < 9223372036854775807 := by have := hx.1; omega
  refine Ev.rounds (g := fun k => examboardlaw34_ZerooneValues.f k v rs fx x) ?_
  unfold examboardlaw34_ZerooneValues.f
  refine Ev.bind (value_ev v rs fx x hcs hxl) (Ev.bind (rvalue_ev v rs fx x hxl) (Ev.bind (feasible_ev v rs fx x hcs hxl) (Ev.bind (rfeasible_ev v rs fx x hxl) ?_)))
  refine Ev.iteP (by simp) (Ev.iteP rfl ?_)
  simpa using Ev.now true
end Go.Proofs.Ythicnegcpafkkaa.Pure
