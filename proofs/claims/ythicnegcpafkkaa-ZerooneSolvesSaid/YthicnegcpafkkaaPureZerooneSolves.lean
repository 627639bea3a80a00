/- The best assignment, its value, or the error, are those of the reference: the plain statement. -/
import Derived.Test.YthicnegcpafkkaaAllx41
import Derived.Test.YthicnegcpafkkaaScan
set_option linter.unusedVariables false
namespace Go.Proofs.Ythicnegcpafkkaa.Pure
open Go.RowKit Go.Proofs.YthicnegcpafkkaaW.PrintWords Go.Proofs.Ythicnegcpafkkaa.All Go.Proofs.Ythicnegcpafkkaa.Opener Go.Proofs.Ythicnegcpafkkaa.Spec Go.Proofs.Ythicnegcpafkkaa.Search
theorem solve_short (v : List Int) (rs : List S45) (fx : List Int) : (solveS v rs fx).1.length < 9223372036854775807 := by
  by_cases hv : validS v rs fx = 0
  · have hP := (validS_iff v rs fx).1 hv
    rw [solve_valid hP]
    cases hp : topS v rs fx with
    | none => decide
    | some p =>
      obtain ⟨a1, a2, a3, a4⟩ := top_some hp
      have := hP.vars
      show p.1.length < _
      omega
  · rw [solve_bad hv]
    show (([] : List Int)).length < _
    decide
theorem solves_j0 (b : Bool) (v : List Int) (rs : List S45) (fx : List Int) (hcs : ∀ r ∈ rs, r.f0.length < 9223372036854775807) : Ev (fun k => examboardlaw34_ZerooneSolves.j0 k b v rs fx) true := by
  refine Ev.up ?_
  simp only [examboardlaw34_ZerooneSolves.j0]
  cases b with
  | true => exact Ev.iteP rfl (Ev.now _)
  | false =>
    have h1 : zeroone_Solve.f v rs fx = some (solveS v rs fx) := solveF_some hcs
    have h2 : examboardref34_Solve.f v rs fx = some (solveS v rs fx) := solveF_some hcs
    refine Ev.iteN (by decide) (Ev.bindS h1 (Ev.bindS h2 (Ev.bind (ints_self _ (solve_short v rs fx)) (Ev.iteP rfl (Ev.iteP rfl ?_)))))
    rw [beq_self_eq_true]
    exact Ev.now _
theorem ZerooneSolves (v : List Int) (rs : List S45) (fx : List Int) (h : ProblemFits (v, rs, fx)) : ∃ k, examboardlaw34_ZerooneSolves.f k v rs fx = some true := by
  have hcs := coefs_fit h.2.1
  refine Ev.rounds (g := fun k => examboardlaw34_ZerooneSolves.f k v rs fx) ?_
  unfold examboardlaw34_ZerooneSolves.f
  by_cases hn : (v.length : Int) > 10
  · exact Ev.iteP hn (Ev.bind (rvalid_ev v rs fx) (solves_j0 _ v rs fx hcs))
  · exact Ev.iteN hn (solves_j0 _ v rs fx hcs)
end Go.Proofs.Ythicnegcpafkkaa.Pure
