/- No solution exceeds the bound, and without constraints the solution reaches it: the plain statement. -/
import Derived.Test.YthicnegcpafkkaaAllx42
import Derived.Test.YthicnegcpafkkaaSolveWalk
set_option linter.unusedVariables false
namespace Go.Proofs.Ythicnegcpafkkaa.Pure
open Go.RowKit Go.Proofs.YthicnegcpafkkaaW.PrintWords Go.Proofs.Ythicnegcpafkkaa.All Go.Proofs.Ythicnegcpafkkaa.Opener Go.Proofs.Ythicnegcpafkkaa.Spec Go.Proofs.Ythicnegcpafkkaa.Search
theorem valid_free {v : List Int} {rs : List S45} {fx : List Int} (h : ValidP v rs fx) : ValidP v [] fx :=
  ⟨h.vars, Nat.zero_le _, h.fixed, (fun r hr => nomatch hr), h.okV, h.okF, rfl⟩
theorem bounds_j0 (v : List Int) (rs : List S45) (fx : List Int) (h : ValidP v rs fx) : Ev (fun k => examboardlaw34_ZerooneBounds.j0 k (hiS v fx) false v rs fx) true := by
  have hF := valid_free h
  obtain ⟨q1, q2, q3, q4⟩ := take_best v fx h.fixed h.okF
  have hfe : feasP [] fx (takeS v fx) = true := by unfold feasP; rw [q3]; rfl
  obtain ⟨p, hp, hle⟩ := top_max (v := v) (rs := []) (fx := fx) q1 q2 hfe
  obtain ⟨a1, a2, a3, a4⟩ := top_some hp
  have hup : p.2 ≤ hiS v fx := by
    have hfx : fixS fx p.1 = true := by
      unfold feasP at a3
      rw [Bool.and_eq_true] at a3
      exact a3.1
    rw [a4]
    exact (fix_bounds v fx p.1 a2 h.fixed a1 hfx h.okF).2
  have hs : zeroone_Solve.f v ([] : List S45) fx = some (p.1, p.2, 0) := by
    show solveF v [] fx = _
    rw [solveF_some (fun r hr => by cases hr), solve_valid hF, hp]; rfl
  have hfe2 := feasible_ev v [] fx p.1 (fun r hr => by cases hr) (by have := h.vars; omega)
  rw [feas_valid hF a1 a2, a3] at hfe2
  refine Ev.step (f := fun k => (zeroone_Feasible.f k v ([] : List S45) fx p.1).bind fun t => some t) (fun k => ?_) (Ev.bind hfe2 (Ev.now _))
  simp only [examboardlaw34_ZerooneBounds.j0]
  rw [if_neg (by decide), hs, Option.bind_some, if_pos rfl, if_pos (by simp only; omega), if_pos (by simp only; omega)]
theorem ZerooneBounds (v : List Int) (rs : List S45) (fx : List Int) (h : ProblemFits (v, rs, fx)) : ∃ k, examboardlaw34_ZerooneBounds.f k v rs fx = some true := by
  have hcs := coefs_fit h.2.1
  refine Ev.rounds (g := fun k => examboardlaw34_ZerooneBounds.f k v rs fx) ?_
  unfold examboardlaw34_ZerooneBounds.f
  by_cases hn : (v.length : Int) > 10
  · exact Ev.iteP hn (Ev.now _)
  · refine Ev.iteN hn (Ev.bind (bound_ev v rs fx hcs) ?_)
    have hs : zeroone_Solve.f v rs fx = some (solveS v rs fx) := solveF_some hcs
    refine Ev.bindS hs ?_
    by_cases hv : validS v rs fx = 0
    · have hP := (validS_iff v rs fx).1 hv
      have hb : boundS v rs fx = (hiS v fx, 0) := by unfold boundS; rw [if_pos hv]
      rw [hb, solve_valid hP]
      refine Ev.iteP rfl ?_
      cases hp : topS v rs fx with
      | none => exact Ev.iteN (by simp [bestS]) (bounds_j0 v rs fx hP)
      | some p =>
        obtain ⟨a1, a2, a3, a4⟩ := top_some hp
        have hup : p.2 ≤ hiS v fx := by
          have hfx : fixS fx p.1 = true := by
            unfold feasP at a3
            rw [Bool.and_eq_true] at a3
            exact a3.1
          rw [a4]
          exact (fix_bounds v fx p.1 a2 hP.fixed a1 hfx hP.okF).2
        refine Ev.iteP rfl (Ev.iteN (by simp only [bestS]; omega) ?_)
        have e : (((bestS (some p)).1.length : Int) != (v.length : Int)) = false := by
          simp only [bestS]
          rw [a2]; simp
        rw [e]
        exact bounds_j0 v rs fx hP
    · have hb : boundS v rs fx = (0, validS v rs fx) := by unfold boundS; rw [if_neg hv]
      rw [hb, solve_bad hv]
      refine Ev.iteN hv (Ev.iteP rfl (Ev.iteP rfl (Ev.now _)))
end Go.Proofs.Ythicnegcpafkkaa.Pure
