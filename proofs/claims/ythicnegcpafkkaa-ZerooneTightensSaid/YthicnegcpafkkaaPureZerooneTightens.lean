/- The program with more variables fixed, or the error, is that of the reference: the plain statement. -/
import Derived.Test.YthicnegcpafkkaaAllx30
import Derived.Test.YthicnegcpafkkaaAllx31
import Derived.Test.YthicnegcpafkkaaRTight
set_option linter.unusedVariables false
namespace Go.Proofs.Ythicnegcpafkkaa.Spec
open Go.RowKit Go.Proofs.YthicnegcpafkkaaW.PrintWords Go.Proofs.YthicnegcpafkkaaW.PrintMore Go.Proofs.Ythicnegcpafkkaa.All Go.Proofs.Ythicnegcpafkkaa.Opener
/-- A program is the same as itself. -/
theorem lsame_ev (v fx : List Int) (rs : List S45) (hv : v.length < 9223372036854775807) (hf : fx.length < 9223372036854775807) (hr : rs.length < 9223372036854775807) (hrs : ∀ r ∈ rs, r.f0.length < 9223372036854775807) : examboardlaw34_same.f v rs fx v rs fx = some true := by
  unfold examboardlaw34_same.f
  rw [if_pos ⟨rfl, sameRows_self rs, rfl, hv, hr, hf, List.all_eq_true.2 fun r h => decide_eq_true (hrs r h)⟩]
end Go.Proofs.Ythicnegcpafkkaa.Spec
namespace Go.Proofs.Ythicnegcpafkkaa.Pure
open Go.RowKit Go.Proofs.YthicnegcpafkkaaW.PrintWords Go.Proofs.Ythicnegcpafkkaa.All Go.Proofs.Ythicnegcpafkkaa.Opener Go.Proofs.Ythicnegcpafkkaa.Spec
theorem tighten_length {rs : List S45} : ∀ (n : Nat) (fx z : List Int), tightenS rs n fx = some z → z.length = fx.length
  | 0, fx, z, h => by
    unfold tightenS at h
    split at h
    · rw [Option.some.inj h]
    · cases h
  | n + 1, fx, z, h => by
    have h' : (if rs.all (fun r => satS r fx) = true then (match firstS rs fx with | some fx' => tightenS rs n fx' | none => some fx) else none) = some z := h
    split at h'
    · cases hq : firstS rs fx with
      | some fx' =>
        rw [hq] at h'
        rw [tighten_length n fx' z h', (first_free hq).1]
      | none => rw [hq] at h'; rw [Option.some.inj h']
    · cases h'
theorem ZerooneTightens (v : List Int) (rs : List S45) (fx : List Int) (h : ProblemFits (v, rs, fx)) : ∃ k, examboardlaw34_ZerooneTightens.f k v rs fx = some true := by
  have hcs := coefs_fit h.2.1
  have hv : v.length < 9223372036854775807 := by have := h.1.1; simp only at this; omega
  have hf : fx.length < 9223372036854775807 := by have := h.2.2.1; simp only at this; omega
  have hr : rs.length < 9223372036854775807 := by have := h.2.1.1; simp only at this; omega
  refine Ev.rounds (g := fun k => examboardlaw34_ZerooneTightens.f k v rs fx) ?_
  unfold examboardlaw34_ZerooneTightens.f
  refine Ev.bind (tight_ev v rs fx hcs) (Ev.bind (rtight_ev v rs fx) (Ev.iteP rfl ?_))
  refine Ev.bindS (a := true) ?_ (Ev.now _)
  unfold tightS
  split
  · unfold outS
    cases hq : tightenS rs (freeS fx) fx with
    | some z => exact lsame_ev v z rs hv (by rw [tighten_length _ _ _ hq]; exact hf) hr hcs
    | none => exact lsame_ev [] [] [] (by decide) (by decide) (by decide) (by simp)
  · exact lsame_ev [] [] [] (by decide) (by decide) (by decide) (by simp)
end Go.Proofs.Ythicnegcpafkkaa.Pure
