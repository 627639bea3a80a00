/- The openers for the types of this seat's laws. -/
import Derived.Test.YtkajeeikpffioaaOpener
import Derived.Test.YtkajeeikpffioaaAllx0
set_option linter.unusedVariables false
namespace Go.Proofs.Ytkajeeikpffioaa.Opener
open Go.ChangeShapes Go.WideShapes Go.RowKit Go.Proofs.YtkajeeikpffioaaW.PrintWords Go.Proofs.Ytkajeeikpffioaa.All
def TraitFits (x : S59) : Prop := x.f0.size ≤ 140737488351232 ∧ IntOk x.f1 ∧ IntOk x.f2
def RatingFits (x : S31) : Prop := IntOk x.f0 ∧ IntOk x.f1 ∧ RowOk 8 IntOk x.f2
theorem o3 : Opens Try.prog 3 (Kd.int .i64) IntOk := opens_int Try.underlying3
theorem o9 : Opens Try.prog 9 Kd.string (fun s => s.size ≤ 140737488351232) := opens_string Try.underlying9
theorem o29 : Opens Try.prog 29 (Kd.slice 3 (Kd.int .i64)) (RowOk 8 IntOk) := opens_slice Try.underlying29 (by kernel_rfl) (by kernel_rfl) o3
theorem o32 : Opens Try.prog 32 (Kd.slice 29 (Kd.slice 3 (Kd.int .i64))) (RowOk 24 (RowOk 8 IntOk)) := opens_slice Try.underlying32 (by kernel_rfl) (by kernel_rfl) o29
theorem o59 : Opens Try.prog 59 k59 TraitFits :=
  opens_struct (fun x : S59 => (x.f0, x.f1, x.f2)) (fun a => ⟨a.1, a.2.1, a.2.2⟩) (fun _ => rfl) Try.underlying59 (by kernel_rfl) (opensF_cons rfl (by kernel_rfl) o9 (opensF_cons rfl (by kernel_rfl) o3 (opensF_one rfl (by kernel_rfl) o3)))
theorem o24 : Opens Try.prog 24 (Kd.slice 59 k59) (RowOk 32 TraitFits) := opens_slice Try.underlying24 (by kernel_rfl) (by kernel_rfl) o59
theorem o31 : Opens Try.prog 31 k31 RatingFits :=
  opens_struct (fun x : S31 => (x.f0, x.f1, x.f2)) (fun a => ⟨a.1, a.2.1, a.2.2⟩) (fun _ => rfl) Try.underlying31 (by kernel_rfl) (opensF_cons rfl (by kernel_rfl) o3 (opensF_cons rfl (by kernel_rfl) o3 (opensF_one rfl (by kernel_rfl) o29)))
theorem o27 : Opens Try.prog 27 (Kd.slice 31 k31) (RowOk 40 RatingFits) := opens_slice Try.underlying27 (by kernel_rfl) (by kernel_rfl) o31
def kA : Kd (Int × Int) := Kd.iso (Kd.pair (Kd.int .i64) (Kd.int .i64)) (fun x => x)
theorem o23 : Opens Try.prog 23 kA (fun x => IntOk x.1 ∧ IntOk x.2) :=
  opens_struct (fun x => x) (fun a => a) (fun _ => rfl) Try.underlying23 (by kernel_rfl) (opensF_cons rfl (by kernel_rfl) o3 (opensF_one rfl (by kernel_rfl) o3))
def kB : Kd (Int × List S59) := Kd.iso (Kd.pair (Kd.int .i64) (Kd.slice 59 k59)) (fun x => x)
def RubricFits (x : Int × List S59) : Prop := IntOk x.1 ∧ RowOk 32 TraitFits x.2
theorem o26 : Opens Try.prog 26 kB RubricFits :=
  opens_struct (fun x => x) (fun a => a) (fun _ => rfl) Try.underlying26 (by kernel_rfl) (opensF_cons rfl (by kernel_rfl) o3 (opensF_one rfl (by kernel_rfl) o24))
/-- What came in reads from what came in alone. -/
theorem V_input {W : World} {A : Option Addr} {c : Nat} {l : List S31} (hc : l.length ≤ c) (hr : Kd.C k31 W A l.length l) : Kd.V k31 31 W W.heap.size (fun k_ => k_ < W.heap.size) (.slice A l.length c) l :=
  Kd.V_mk hc (fun W' hW => k31_heap.C (fun k hk => hW k hk hk) hr)
end Go.Proofs.Ytkajeeikpffioaa.Opener
