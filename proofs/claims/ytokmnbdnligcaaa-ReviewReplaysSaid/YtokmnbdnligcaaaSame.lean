/- Two records that are equal are the same. -/
import Derived.Test.YtokmnbdnligcaaaAllx30
import Derived.Test.YtokmnbdnligcaaaApply
set_option linter.unusedVariables false
namespace Go.Proofs.Ytokmnbdnligcaaa.Spec
open Go.RowKit Go.Proofs.YtokmnbdnligcaaaW.PrintWords Go.Proofs.Ytokmnbdnligcaaa.All
theorem same_ev (st au : Int) (ap fa : List Int) (log : List S34) (ha : ap.length < 9223372036854775807) (hf : fa.length < 9223372036854775807) (hl : log.length < 9223372036854775807) :
    Ev (fun k => examboardlaw15_same.f k st au ap fa log st au ap fa log) true := by
  have h : ∀ (d i : Nat), log.length - i = d → i ≤ log.length → Ev (fun k => examboardlaw15_same.l0 k (i : Int) st au ap fa log st au ap fa log) true := by
    intro d
    induction d with
    | zero =>
      intro i hd hi
      refine Ev.up ?_
      simp only [examboardlaw15_same.l0]
      exact Ev.iteN (by omega) (Ev.now _)
    | succ d ih =>
      intro i hd hi
      refine Ev.up ?_
      simp only [examboardlaw15_same.l0]
      rw [wrap_nat (i := i) (by omega)]
      exact Ev.iteP (by omega) (Ev.iteP (by omega) (Ev.iteP (by omega) (Ev.iteN (by simp) (ih (i + 1) (by omega) (by omega)))))
  unfold examboardlaw15_same.f
  refine Ev.iteP rfl (Ev.iteP rfl (Ev.bind (ints_ev ap ha) (Ev.iteP rfl (Ev.bind (ints_ev fa hf) (Ev.iteP rfl ?_)))))
  refine Ev.up ?_
  simp only [examboardlaw15_same.j0]
  exact Ev.iteN (by simp) (h _ 0 rfl (Nat.zero_le _))
end Go.Proofs.Ytokmnbdnligcaaa.Spec
