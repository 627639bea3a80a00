/- The openers for the types of this seat's laws. -/
import Derived.Test.YtokmnbdnligcaaaOpener
import Derived.Test.YtokmnbdnligcaaaAllx0
set_option linter.unusedVariables false
namespace Go.Proofs.Ytokmnbdnligcaaa.Opener
open Go.ChangeShapes Go.WideShapes Go.RowKit Go.Proofs.YtokmnbdnligcaaaW.PrintWords Go.Proofs.Ytokmnbdnligcaaa.All
def ActFits (x : S34) : Prop := IntOk x.f0 ∧ IntOk x.f1 ∧ IntOk x.f2 ∧ IntOk x.f3
theorem o3 : Opens Try.prog 3 (Kd.int .i64) IntOk := opens_int Try.underlying3
theorem o22 : Opens Try.prog 22 (Kd.slice 3 (Kd.int .i64)) (RowOk 8 IntOk) := opens_slice Try.underlying22 (by kernel_rfl) (by kernel_rfl) o3
theorem o34 : Opens Try.prog 34 k34 ActFits :=
  opens_struct (fun x : S34 => (x.f0, x.f1, x.f2, x.f3)) (fun a => ⟨a.1, a.2.1, a.2.2.1, a.2.2.2⟩) (fun _ => rfl) Try.underlying34 (by kernel_rfl)
    (opensF_cons rfl (by kernel_rfl) o3 (opensF_cons rfl (by kernel_rfl) o3 (opensF_cons rfl (by kernel_rfl) o3 (opensF_one rfl (by kernel_rfl) o3))))
theorem o23 : Opens Try.prog 23 (Kd.slice 34 k34) (RowOk 32 ActFits) := opens_slice Try.underlying23 (by kernel_rfl) (by kernel_rfl) o34
def kR : Kd (Int × Int × List Int × List Int × List S34) := Kd.iso (Kd.pair (Kd.int .i64) (Kd.pair (Kd.int .i64) (Kd.pair (Kd.slice 3 (Kd.int .i64)) (Kd.pair (Kd.slice 3 (Kd.int .i64)) (Kd.slice 34 k34))))) (fun x => x)
def ReviewFits (x : Int × Int × List Int × List Int × List S34) : Prop := IntOk x.1 ∧ IntOk x.2.1 ∧ RowOk 8 IntOk x.2.2.1 ∧ RowOk 8 IntOk x.2.2.2.1 ∧ RowOk 32 ActFits x.2.2.2.2
theorem o25 : Opens Try.prog 25 kR ReviewFits :=
  opens_struct (fun x => x) (fun a => a) (fun _ => rfl) Try.underlying25 (by kernel_rfl) (opensF_cons rfl (by kernel_rfl) o3 (opensF_cons rfl (by kernel_rfl) o3 (opensF_cons rfl (by kernel_rfl) o22 (opensF_cons rfl (by kernel_rfl) o22 (opensF_one rfl (by kernel_rfl) o23)))))
end Go.Proofs.Ytokmnbdnligcaaa.Opener
