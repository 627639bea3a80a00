/- What performing an action leads to, in plain words: the program's Apply answers so. -/
import Derived.Test.YtokmnbdnligcaaaAllx19
import Derived.Test.YtokmnbdnligcaaaAllx20
import Derived.Test.YtokmnbdnligcaaaAllow
set_option linter.unusedVariables false
namespace Go.Proofs.Ytokmnbdnligcaaa.Spec
open Go.RowKit Go.Proofs.YtokmnbdnligcaaaW.PrintWords Go.Proofs.Ytokmnbdnligcaaa.All

abbrev Rec := Int × Int × List Int × List Int × List S34
def okV (r : Rec) (a : S34) : Int := allowedV r.1 r.2.1 r.2.2.1 r.2.2.2.2 a.f0 a.f1 a.f2 a.f3
/-- The record behind an action that is allowed. -/
def doneV (r : Rec) (a : S34) : Rec :=
  if a.f0 = 1 then (2, r.2.1, r.2.2.1, r.2.2.2.1, r.2.2.2.2 ++ [a])
  else if a.f0 = 2 then ((if 1 ≤ r.2.2.1.length then 3 else r.1), r.2.1, r.2.2.1 ++ [a.f1], r.2.2.2.1, r.2.2.2.2 ++ [a])
  else if a.f0 = 3 ∨ a.f0 = 9 then (1, r.2.1, [], [], r.2.2.2.2 ++ [a])
  else if a.f0 = 4 then (4, r.2.1, r.2.2.1, r.2.2.2.1 ++ [a.f1], r.2.2.2.2 ++ [a])
  else if a.f0 = 5 ∨ a.f0 = 7 then (5, r.2.1, r.2.2.1, r.2.2.2.1, r.2.2.2.2 ++ [a])
  else if a.f0 = 6 then (6, r.2.1, r.2.2.1, r.2.2.2.1, r.2.2.2.2 ++ [a])
  else if a.f0 = 8 then (7, r.2.1, r.2.2.1, r.2.2.2.1, r.2.2.2.2 ++ [a])
  else (r.1, r.2.1, r.2.2.1, r.2.2.2.1, r.2.2.2.2 ++ [a])
def applyV (r : Rec) (a : S34) : Int × Int × List Int × List Int × List S34 × Int :=
  if okV r a = 0 then ((doneV r a).1, (doneV r a).2.1, (doneV r a).2.2.1, (doneV r a).2.2.2.1, (doneV r a).2.2.2.2, 0) else (0, 0, [], [], [], okV r a)
/-- Rows of a record are short. -/
def Short (r : Rec) : Prop := r.2.2.1.length ≤ r.2.2.2.2.length ∧ r.2.2.2.1.length ≤ r.2.2.2.2.length ∧ r.2.2.2.2.length ≤ 200
theorem apply_ev (r : Rec) (a : S34) (hs : Short r) :
    Ev (fun k => review_Apply.f k r.1 r.2.1 r.2.2.1 r.2.2.2.1 r.2.2.2.2 a.f0 a.f1 a.f2 a.f3) (applyV r a) := by
  obtain ⟨st, au, ap, fa, log⟩ := r
  obtain ⟨h1, h2, h3⟩ := hs
  simp only at h1 h2 h3
  have ha : ap.length < 17592186044415 := by omega
  have hf : fa.length < 17592186044415 := by omega
  have hl : log.length < 4398046511103 := by omega
  have q2 : Ev (fun k => review_Apply.j2 k a.f0 (decide (a.f0 = 5 ∨ a.f0 = 7)) st au ap fa (log ++ [a]))
      (if a.f0 = 5 ∨ a.f0 = 7 then (5, au, ap, fa, log ++ [a], 0) else if a.f0 = 6 then (6, au, ap, fa, log ++ [a], 0) else if a.f0 = 8 then (7, au, ap, fa, log ++ [a], 0) else (st, au, ap, fa, log ++ [a], 0)) := by
    refine Ev.up ?_
    simp only [review_Apply.j2, decide_eq_true_eq]
    repeat' split
    all_goals exact Ev.now _
  have q1 : Ev (fun k => review_Apply.j1 k a.f0 (decide (a.f0 = 3 ∨ a.f0 = 9)) a.f0 a.f1 a.f2 a.f3 st au ap fa (log ++ [a]))
      (if a.f0 = 3 ∨ a.f0 = 9 then (1, au, [], [], log ++ [a], 0) else if a.f0 = 4 then (4, au, ap, fa ++ [a.f1], log ++ [a], 0)
        else if a.f0 = 5 ∨ a.f0 = 7 then (5, au, ap, fa, log ++ [a], 0) else if a.f0 = 6 then (6, au, ap, fa, log ++ [a], 0) else if a.f0 = 8 then (7, au, ap, fa, log ++ [a], 0) else (st, au, ap, fa, log ++ [a], 0)) := by
    refine Ev.up ?_
    simp only [review_Apply.j1, decide_eq_true_eq]
    refine Ev.iteC (fun h => Ev.is (by rw [if_pos h])) (fun h => ?_)
    rw [if_neg h]
    refine Ev.iteC (fun h => ?_) (fun h => ?_)
    · rw [if_pos h]
      exact Ev.bindS rfl (Ev.iteP (by simp; omega) (Ev.now _))
    rw [if_neg h]
    refine Ev.iteC (fun h => ?_) (fun h => ?_)
    · rw [show (a.f0 == 5) = decide (a.f0 = 5 ∨ a.f0 = 7) by simp [h]]; exact q2
    · rw [show (a.f0 == 7) = decide (a.f0 = 5 ∨ a.f0 = 7) by by_cases h4 : a.f0 = 7 <;> simp [h4, h]]; exact q2
  have q0 : Ev (fun k => review_Apply.j0 k a.f0 (a.f0 == 1) a.f0 a.f1 a.f2 a.f3 st au ap fa (log ++ [a]))
      ((doneV (st, au, ap, fa, log) a).1, (doneV (st, au, ap, fa, log) a).2.1, (doneV (st, au, ap, fa, log) a).2.2.1, (doneV (st, au, ap, fa, log) a).2.2.2.1, (doneV (st, au, ap, fa, log) a).2.2.2.2, 0) := by
    refine Ev.up ?_
    simp only [review_Apply.j0, beq_iff_eq]
    refine Ev.iteC (fun h => Ev.is (by simp only [doneV]; rw [if_pos h])) (fun h => ?_)
    refine Ev.iteC (fun h' => ?_) (fun h' => ?_)
    · refine Ev.bindS rfl (Ev.iteP (by simp; omega) (Ev.bindS rfl (Ev.iteC (fun h2 => Ev.is ?_) (fun h2 => Ev.is ?_))))
      · simp only [doneV]; rw [if_neg h, if_pos h', if_pos (by simp at h2; omega)]
      · simp only [doneV]; rw [if_neg h, if_pos h', if_neg (by simp at h2; omega)]
    · have e : ((doneV (st, au, ap, fa, log) a).1, (doneV (st, au, ap, fa, log) a).2.1, (doneV (st, au, ap, fa, log) a).2.2.1, (doneV (st, au, ap, fa, log) a).2.2.2.1, (doneV (st, au, ap, fa, log) a).2.2.2.2, (0 : Int)) =
          (if a.f0 = 3 ∨ a.f0 = 9 then (1, au, [], [], log ++ [a], 0) else if a.f0 = 4 then (4, au, ap, fa ++ [a.f1], log ++ [a], 0)
            else if a.f0 = 5 ∨ a.f0 = 7 then (5, au, ap, fa, log ++ [a], 0) else if a.f0 = 6 then (6, au, ap, fa, log ++ [a], 0) else if a.f0 = 8 then (7, au, ap, fa, log ++ [a], 0) else (st, au, ap, fa, log ++ [a], 0)) := by
        simp only [doneV]
        rw [if_neg h, if_neg h']
        repeat' split
        all_goals first | rfl | omega
      rw [e]
      refine Ev.iteC (fun h3 => ?_) (fun h3 => ?_)
      · rw [show (a.f0 == 3) = decide (a.f0 = 3 ∨ a.f0 = 9) by simp [h3]]; exact q1
      · rw [show (a.f0 == 9) = decide (a.f0 = 3 ∨ a.f0 = 9) by by_cases h4 : a.f0 = 9 <;> simp [h4, h3]]; exact q1
  unfold review_Apply.f
  refine Ev.bind (allowed_ev st au ap fa log a.f0 a.f1 a.f2 a.f3 (by omega) (by omega)) ?_
  show Ev _ (applyV (st, au, ap, fa, log) a)
  unfold applyV
  refine Ev.iteC (fun h => ?_) (fun h => Ev.is ?_)
  · rw [if_pos (show okV (st, au, ap, fa, log) a = 0 from h)]
    refine Ev.bindS (a := ap) (by rw [slices_Clone_int_int.f]; exact if_pos (show ap.length < _ by omega)) (Ev.bindS (a := fa) (by rw [slices_Clone_int_int.f]; exact if_pos (show fa.length < _ by omega)) (Ev.bindS (a := log) (by rw [api_Action.f]; exact if_pos (show log.length < _ by omega)) (Ev.bindS rfl ?_)))
    exact Ev.iteP (by simp; omega) q0
  · rw [if_neg (show ¬ okV (st, au, ap, fa, log) a = 0 from h)]; rfl
/-- A new record. -/
def newV (au : Int) : Int × Int × List Int × List Int × List S34 × Int := if 1 ≤ au ∧ au ≤ 9999999 then (1, au, [], [], [], 0) else (0, 0, [], [], [], 3)
theorem new_is (au : Int) : review_New.f au = some (newV au) := by
  unfold review_New.f review_user.f newV
  by_cases h : 1 ≤ au
  · rw [if_pos (by omega)]
    by_cases h2 : au ≤ 9999999
    · rw [if_pos ⟨h, h2⟩]; simp [h2]
    · rw [if_neg (by omega)]; simp [h2]
  · rw [if_neg (by omega), if_neg (by omega)]; simp
/-- What an allowed action does to a record's shape. -/
theorem allowed_short {r : Rec} {a : S34} (h : okV r a = 0) : r.2.2.2.2.length < 200 := by
  unfold okV allowedV at h
  repeat' split at h
  all_goals first | omega | (exact absurd h (by decide))
theorem done_log (r : Rec) (a : S34) : (doneV r a).2.2.2.2 = r.2.2.2.2 ++ [a] := by
  unfold doneV
  repeat' split
  all_goals rfl
theorem done_short {r : Rec} {a : S34} (hs : Short r) (h : okV r a = 0) : Short (doneV r a) := by
  have hl := allowed_short h
  obtain ⟨h1, h2, h3⟩ := hs
  unfold Short
  rw [done_log]
  refine ⟨?_, ?_, by simp; omega⟩
  · unfold doneV; repeat' split
    all_goals (simp; try omega)
  · unfold doneV; repeat' split
    all_goals (simp; try omega)
end Go.Proofs.Ytokmnbdnligcaaa.Spec
