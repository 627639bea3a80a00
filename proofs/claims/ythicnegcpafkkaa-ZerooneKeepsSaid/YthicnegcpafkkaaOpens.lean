/- The openers for the types of this seat's laws. -/
import Derived.Test.YthicnegcpafkkaaOpener
import Derived.Test.YthicnegcpafkkaaAllx0
set_option linter.unusedVariables false
namespace Go.Proofs.Ythicnegcpafkkaa.Opener
open Go.ChangeShapes Go.WideShapes Go.RowKit Go.Proofs.YthicnegcpafkkaaW.PrintWords Go.Proofs.Ythicnegcpafkkaa.All
def RowFits (x : S45) : Prop := RowOk 8 IntOk x.f0 ∧ IntOk x.f1 ∧ IntOk x.f2
theorem o3 : Opens Try.prog 3 (Kd.int .i64) IntOk := opens_int Try.underlying3
theorem o22 : Opens Try.prog 22 (Kd.slice 3 (Kd.int .i64)) (RowOk 8 IntOk) := opens_slice Try.underlying22 (by kernel_rfl) (by kernel_rfl) o3
theorem o45 : Opens Try.prog 45 k45 RowFits :=
  opens_struct (fun x : S45 => (x.f0, x.f1, x.f2)) (fun a => ⟨a.1, a.2.1, a.2.2⟩) (fun _ => rfl) Try.underlying45 (by kernel_rfl) (opensF_cons rfl (by kernel_rfl) o22 (opensF_cons rfl (by kernel_rfl) o3 (opensF_one rfl (by kernel_rfl) o3)))
theorem o23 : Opens Try.prog 23 (Kd.slice 45 k45) (RowOk 40 RowFits) := opens_slice Try.underlying23 (by kernel_rfl) (by kernel_rfl) o45
def kP : Kd (List Int × List S45 × List Int) := Kd.iso (Kd.pair (Kd.slice 3 (Kd.int .i64)) (Kd.pair (Kd.slice 45 k45) (Kd.slice 3 (Kd.int .i64)))) (fun x => x)
def ProblemFits (x : List Int × List S45 × List Int) : Prop := RowOk 8 IntOk x.1 ∧ RowOk 40 RowFits x.2.1 ∧ RowOk 8 IntOk x.2.2
theorem o25 : Opens Try.prog 25 kP ProblemFits :=
  opens_struct (fun x => x) (fun a => a) (fun _ => rfl) Try.underlying25 (by kernel_rfl) (opensF_cons rfl (by kernel_rfl) o22 (opensF_cons rfl (by kernel_rfl) o23 (opensF_one rfl (by kernel_rfl) o22)))
end Go.Proofs.Ythicnegcpafkkaa.Opener
