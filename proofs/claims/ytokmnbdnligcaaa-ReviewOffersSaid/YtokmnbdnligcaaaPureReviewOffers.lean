/- The actions that a user may perform are those of the reference: the plain statement. -/
import Derived.Test.YtokmnbdnligcaaaAllx16
import Derived.Test.YtokmnbdnligcaaaOpens
import Derived.Test.YtokmnbdnligcaaaAllow
set_option linter.unusedVariables false
namespace Go.Proofs.Ytokmnbdnligcaaa.Pure
open Go.RowKit Go.Proofs.YtokmnbdnligcaaaW.PrintWords Go.Proofs.Ytokmnbdnligcaaa.All Go.Proofs.Ytokmnbdnligcaaa.Opener Go.Proofs.Ytokmnbdnligcaaa.Spec
theorem ReviewOffers (st au : Int) (ap fa : List Int) (log : List S34) (us ro ti : Int) (h : ReviewFits (st, au, ap, fa, log)) (_ : IntOk us) (_ : IntOk ro) (_ : IntOk ti) :
    ∃ k, examboardlaw15_ReviewOffers.f k st au ap fa log us ro ti = some true := by
  have ha : ap.length < 9223372036854775807 := by have q : ap.length * 8 ≤ 140737488351232 := h.2.2.1.1; omega
  have hl : log.length < 9223372036854775807 := by have q : log.length * 32 ≤ 140737488351232 := h.2.2.2.2.1; omega
  have hn := acts_length (fun kd => allowedV st au ap log kd us ro ti) 9 1 []
  refine Ev.rounds (g := fun k => examboardlaw15_ReviewOffers.f k st au ap fa log us ro ti) ?_
  unfold examboardlaw15_ReviewOffers.f
  exact Ev.bind (actions_ev st au ap fa log us ro ti ha hl) (Ev.bind (ractions_ev st au ap fa log us ro ti ha hl) (Ev.bind (ints_ev _ (by have h2 : (actionsV st au ap log us ro ti).length ≤ 0 + 9 := hn; omega)) (Ev.now _)))
end Go.Proofs.Ytokmnbdnligcaaa.Pure
