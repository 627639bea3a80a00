/- What comes in fits the plain words. -/
import Derived.Test.YtkajeeikpffioaaOpens
import Derived.Test.YtkajeeikpffioaaAdj
import Derived.Test.YtkajeeikpffioaaAllx10
set_option linter.unusedVariables false
namespace Go.Proofs.Ytkajeeikpffioaa.Spec
open Go.RowKit Go.Proofs.YtkajeeikpffioaaW.PrintWords Go.Proofs.Ytkajeeikpffioaa.All Go.Proofs.Ytkajeeikpffioaa.Opener
theorem names_fit {id : Int} {ts : List S59} (h : RubricFits (id, ts)) : namesFit ts = true := by
  unfold namesFit
  rw [List.all_eq_true]
  intro t ht
  exact decide_eq_true (h.2.2 t ht).1
theorem row_sm {α : Type} {B : Nat} {ok : α → Prop} {l : List α} (h : RowOk B ok l) (hB : 1 ≤ B) : Sm l := by
  have q : l.length * B ≤ 140737488351232 := h.1
  have : l.length * 1 ≤ l.length * B := Nat.mul_le_mul_left _ hB
  unfold Sm; omega
set_option maxRecDepth 100000 in
theorem awake_ev : Ev (fun k => examboardlaw43_awake.f k) true := Ev.of (k := 60) examboardlaw43_awake.mono (by decide +kernel)
theorem aw_ev : Ev (fun k => (examboardlaw43_awake.f k).bind fun t => some t) true := Ev.bind awake_ev (Ev.now _)
end Go.Proofs.Ytkajeeikpffioaa.Spec
