/- Plain words on 0-1 programs: which are valid; what a row's terms can add. Nothing of the program stands here beyond the type of a row. -/
import Derived.Test.YthicnegcpafkkaaAllx0
import Derived.Test.YthicnegcpafkkaaOpens
set_option linter.unusedVariables false
namespace Go.Proofs.Ythicnegcpafkkaa.Spec
open Go.RowKit Go.Proofs.YthicnegcpafkkaaW.PrintWords Go.Proofs.Ythicnegcpafkkaa.All

theorem wrap_in {n : Int} (h0 : -9223372036854775808 ≤ n) (h1 : n ≤ 9223372036854775807) : wrap64 n = n := by unfold wrap64; omega
theorem wrap_nat {i : Nat} (h : i < 9223372036854775807) : wrap64 ((i : Int) + 1) = ((i + 1 : Nat) : Int) := by rw [wrap_in (by omega) (by omega)]; omega
theorem rd_nat (l : List Int) (i : Nat) : rd l (i : Int) = l.getD i 0 := by simp [rd]
theorem drop_rd {l : List Int} {i : Nat} (h : i < l.length) : l.drop i = rd l (i : Int) :: l.drop (i + 1) := by
  rw [rd_nat, List.getD_eq_getElem?_getD, List.getElem?_eq_getElem h]; exact List.drop_eq_getElem_cons h
theorem drop_rdT {l : List S45} {i : Nat} (h : i < l.length) : l.drop i = rd_T45 l (i : Int) :: l.drop (i + 1) := by
  rw [rd_T45, Int.toNat_natCast, List.getD_eq_getElem?_getD, List.getElem?_eq_getElem h]; exact List.drop_eq_getElem_cons h
theorem Ev.some_ {α : Type} (r : α) : Ev (fun _ => some r) r := Ev.now r
theorem Ev.iteP {α : Type} {c : Prop} [Decidable c] {g f : Nat → Option α} {r : α} (h : c) (k : Ev g r) : Ev (fun n => if c then g n else f n) r := by
  simpa [h] using k
theorem Ev.iteN {α : Type} {c : Prop} [Decidable c] {g f : Nat → Option α} {r : α} (h : ¬ c) (k : Ev f r) : Ev (fun n => if c then g n else f n) r := by
  simpa [h] using k
theorem Ev.bindS {α β : Type} {o : Option α} {a : α} {f : Nat → α → Option β} {r : β} (h : o = some a) (k : Ev (fun n => f n a) r) : Ev (fun n => o.bind (f n)) r := by
  subst h; exact k

/-! ### valid programs -/
def okCoef (c : Int) : Bool := decide (-1000000 ≤ c) && decide (c ≤ 1000000)
def okSum (c : Int) : Bool := decide (-24000000 ≤ c) && decide (c ≤ 24000000)
def okFix (c : Int) : Bool := decide (-1 ≤ c) && decide (c ≤ 1)
def okRow (r : S45) : Bool := okSum r.f1 && okSum r.f2 && r.f0.all okCoef
def validS (v : List Int) (rs : List S45) (fx : List Int) : Int :=
  if 24 < v.length ∨ 60 < rs.length then 5 else if fx.length ≠ v.length then 1 else if rs.all (fun r => r.f0.length == v.length) = false then 1
  else if (v.all okCoef && fx.all okFix && rs.all okRow) = true then 0 else 3
end Go.Proofs.Ythicnegcpafkkaa.Spec
