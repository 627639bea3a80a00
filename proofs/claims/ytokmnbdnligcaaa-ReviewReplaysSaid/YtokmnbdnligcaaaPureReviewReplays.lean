/- What a log leads to, and how many actions were performed, is that of the reference: the plain statement. -/
import Derived.Test.YtokmnbdnligcaaaAllx31
import Derived.Test.YtokmnbdnligcaaaAllx28
import Derived.Test.YtokmnbdnligcaaaAllx26
import Derived.Test.YtokmnbdnligcaaaOpens
import Derived.Test.YtokmnbdnligcaaaApply
import Derived.Test.YtokmnbdnligcaaaSame
set_option linter.unusedVariables false
namespace Go.Proofs.Ytokmnbdnligcaaa.Pure
open Go.RowKit Go.Proofs.YtokmnbdnligcaaaW.PrintWords Go.Proofs.Ytokmnbdnligcaaa.All Go.Proofs.Ytokmnbdnligcaaa.Opener Go.Proofs.Ytokmnbdnligcaaa.Spec
theorem rints_ev (l : List Int) (hl : l.length < 17592186044416) : Ev (fun k => examboardref15_ints.f k l) l := by
  have h : ∀ (d i : Nat), l.length - i = d → i ≤ l.length → Ev (fun k => examboardref15_ints.l0 k l (l.take i) (i : Int)) l := by
    intro d
    induction d with
    | zero =>
      intro i hd hi
      refine Ev.up ?_
      simp only [examboardref15_ints.l0]
      exact Ev.iteN (by omega) (Ev.is (List.take_of_length_le (by omega)))
    | succ d ih =>
      intro i hd hi
      have hlt : i < l.length := by omega
      refine Ev.up ?_
      simp only [examboardref15_ints.l0]
      rw [wrap_nat (i := i) (by omega)]
      have e : l.take i ++ [rd l (i : Int)] = l.take (i + 1) := by
        rw [rd_nat, List.getD_eq_getElem?_getD, List.getElem?_eq_getElem hlt, Option.getD_some, List.take_append_getElem]
      rw [e]
      exact Ev.iteP (by omega) (Ev.iteP (by omega) (Ev.iteP (by rw [List.length_take]; omega) (ih (i + 1) (by omega) (by omega))))
  have h0 := h _ 0 rfl (Nat.zero_le _)
  simpa [examboardref15_ints.f] using h0
theorem rapply_ev (r : Rec) (a : S34) (hs : Short r) :
    Ev (fun k => examboardref15_Apply.f k r.1 r.2.1 r.2.2.1 r.2.2.2.1 r.2.2.2.2 a.f0 a.f1 a.f2 a.f3) (applyV r a) := by
  obtain ⟨st, au, ap, fa, log⟩ := r
  obtain ⟨h1, h2, h3⟩ := hs
  simp only at h1 h2 h3
  have ha : ap.length < 17592186044415 := by omega
  have hf : fa.length < 17592186044415 := by omega
  have hl : log.length < 4398046511103 := by omega
  have q2 : Ev (fun k => examboardref15_Apply.j2 k a.f0 (decide (a.f0 = 5 ∨ a.f0 = 7)) st au ap fa (log ++ [a]))
      (if a.f0 = 5 ∨ a.f0 = 7 then (5, au, ap, fa, log ++ [a], 0) else if a.f0 = 6 then (6, au, ap, fa, log ++ [a], 0) else if a.f0 = 8 then (7, au, ap, fa, log ++ [a], 0) else (st, au, ap, fa, log ++ [a], 0)) := by
    refine Ev.up ?_
    simp only [examboardref15_Apply.j2, decide_eq_true_eq]
    repeat' split
    all_goals exact Ev.now _
  have q1 : Ev (fun k => examboardref15_Apply.j1 k a.f0 (decide (a.f0 = 3 ∨ a.f0 = 9)) a.f0 a.f1 a.f2 a.f3 st au ap fa (log ++ [a]))
      (if a.f0 = 3 ∨ a.f0 = 9 then (1, au, [], [], log ++ [a], 0) else if a.f0 = 4 then (4, au, ap, fa ++ [a.f1], log ++ [a], 0)
        else if a.f0 = 5 ∨ a.f0 = 7 then (5, au, ap, fa, log ++ [a], 0) else if a.f0 = 6 then (6, au, ap, fa, log ++ [a], 0) else if a.f0 = 8 then (7, au, ap, fa, log ++ [a], 0) else (st, au, ap, fa, log ++ [a], 0)) := by
    refine Ev.up ?_
    simp only [examboardref15_Apply.j1, decide_eq_true_eq]
    refine Ev.iteC (fun h => Ev.is (by rw [if_pos h])) (fun h => ?_)
    rw [if_neg h]
    refine Ev.iteC (fun h => ?_) (fun h => ?_)
    · rw [if_pos h]
      exact Ev.iteP (by omega) (Ev.now _)
    rw [if_neg h]
    refine Ev.iteC (fun h => ?_) (fun h => ?_)
    · rw [show (a.f0 == 5) = decide (a.f0 = 5 ∨ a.f0 = 7) by simp [h]]; exact q2
    · rw [show (a.f0 == 7) = decide (a.f0 = 5 ∨ a.f0 = 7) by by_cases h4 : a.f0 = 7 <;> simp [h4, h]]; exact q2
  have q0 : Ev (fun k => examboardref15_Apply.l0 k (log.length : Int) st au ap fa log a.f0 a.f1 a.f2 a.f3 st au ap fa log)
      ((doneV (st, au, ap, fa, log) a).1, (doneV (st, au, ap, fa, log) a).2.1, (doneV (st, au, ap, fa, log) a).2.2.1, (doneV (st, au, ap, fa, log) a).2.2.2.1, (doneV (st, au, ap, fa, log) a).2.2.2.2, 0) := by
    refine Ev.up ?_
    simp only [examboardref15_Apply.l0]
    refine Ev.iteN (by omega) (Ev.iteP (by omega) (Ev.bindS (a := log ++ [a]) rfl ?_))
    refine Ev.iteC (fun h => Ev.is (by simp only [doneV]; rw [if_pos h])) (fun h => ?_)
    refine Ev.iteC (fun h' => ?_) (fun h' => ?_)
    · refine Ev.iteP (by omega) (Ev.bindS rfl (Ev.iteC (fun h2 => Ev.is ?_) (fun h2 => Ev.is ?_)))
      · simp only [doneV]; rw [if_neg h, if_pos h', if_pos (by simp at h2; omega)]
      · simp only [doneV]; rw [if_neg h, if_pos h', if_neg (by simp at h2; omega)]
    · have e : ((doneV (st, au, ap, fa, log) a).1, (doneV (st, au, ap, fa, log) a).2.1, (doneV (st, au, ap, fa, log) a).2.2.1, (doneV (st, au, ap, fa, log) a).2.2.2.1, (doneV (st, au, ap, fa, log) a).2.2.2.2, (0 : Int)) =
          (if a.f0 = 3 ∨ a.f0 = 9 then (1, au, [], [], log ++ [a], 0) else if a.f0 = 4 then (4, au, ap, fa ++ [a.f1], log ++ [a], 0)
            else if a.f0 = 5 ∨ a.f0 = 7 then (5, au, ap, fa, log ++ [a], 0) else if a.f0 = 6 then (6, au, ap, fa, log ++ [a], 0) else if a.f0 = 8 then (7, au, ap, fa, log ++ [a], 0) else (st, au, ap, fa, log ++ [a], 0)) := by
        simp only [doneV]
        rw [if_neg h, if_neg h']
        repeat' split
        all_goals first | rfl | omega
      rw [e]
      refine Ev.iteC (fun h3 => ?_) (fun h3 => ?_)
      · rw [show (a.f0 == 3) = decide (a.f0 = 3 ∨ a.f0 = 9) by simp [h3]]; exact q1
      · rw [show (a.f0 == 9) = decide (a.f0 = 3 ∨ a.f0 = 9) by by_cases h4 : a.f0 = 9 <;> simp [h4, h3]]; exact q1
  have hl0 : ∀ (d i : Nat), log.length - i = d → i ≤ log.length → Ev (fun k => examboardref15_Apply.l0 k (i : Int) st au ap fa log a.f0 a.f1 a.f2 a.f3 st au ap fa (log.take i))
      ((doneV (st, au, ap, fa, log) a).1, (doneV (st, au, ap, fa, log) a).2.1, (doneV (st, au, ap, fa, log) a).2.2.1, (doneV (st, au, ap, fa, log) a).2.2.2.1, (doneV (st, au, ap, fa, log) a).2.2.2.2, 0) := by
    intro d
    induction d with
    | zero =>
      intro i hd hi
      obtain rfl : i = log.length := by omega
      rw [List.take_of_length_le (Nat.le_refl _)]
      exact q0
    | succ d ih =>
      intro i hd hi
      have hlt : i < log.length := by omega
      refine Ev.up ?_
      simp only [examboardref15_Apply.l0]
      rw [wrap_nat (i := i) (by omega)]
      have e : log.take i ++ [(⟨(rd_T34 log (i : Int)).f0, (rd_T34 log (i : Int)).f1, (rd_T34 log (i : Int)).f2, (rd_T34 log (i : Int)).f3⟩ : S34)] = log.take (i + 1) := by
        show log.take i ++ [rd_T34 log (i : Int)] = _
        rw [rd_T34, Int.toNat_natCast, List.getD_eq_getElem?_getD, List.getElem?_eq_getElem hlt, Option.getD_some, List.take_append_getElem]
      rw [e]
      exact Ev.iteP (by omega) (Ev.iteP (by omega) (Ev.iteP (by rw [List.length_take]; omega) (ih (i + 1) (by omega) (by omega))))
  unfold examboardref15_Apply.f
  refine Ev.bind (rallowed_ev st au ap fa log a.f0 a.f1 a.f2 a.f3 (by omega) (by omega)) ?_
  show Ev _ (applyV (st, au, ap, fa, log) a)
  unfold applyV
  refine Ev.iteC (fun h => ?_) (fun h => Ev.is ?_)
  · rw [if_pos (show okV (st, au, ap, fa, log) a = 0 from h)]
    refine Ev.bind (rints_ev ap (by omega)) (Ev.bind (rints_ev fa (by omega)) ?_)
    have h0 := hl0 _ 0 rfl (Nat.zero_le _)
    simpa using h0
  · rw [if_neg (show ¬ okV (st, au, ap, fa, log) a = 0 from h)]; rfl
theorem rnew_is (au : Int) : examboardref15_New.f au = some (newV au) := by
  unfold examboardref15_New.f newV
  by_cases h : au < 1
  · rw [if_pos h, if_neg (by omega)]
  · rw [if_neg h]
    by_cases h2 : au > 9999999
    · rw [if_pos h2, if_neg (by omega)]
    · rw [if_neg h2, if_pos (by omega)]
/-- What the actions of a log lead to, from the i-th on. -/
def replayV (n : Nat) : List S34 → Nat → Rec → Int × Int × List Int × List Int × List S34 × Int × Int
  | [], _, r => (r.1, r.2.1, r.2.2.1, r.2.2.2.1, r.2.2.2.2, (n : Int), 0)
  | a :: l, i, r => if okV r a = 0 then replayV n l (i + 1) (doneV r a) else (0, 0, [], [], [], (i : Int), okV r a)
theorem replay_l0 (L : List S34) (hL : L.length < 9223372036854775807) : ∀ (d i : Nat) (r : Rec), Short r → L.length - i = d → i ≤ L.length →
    Ev (fun k => review_Replay.l0 k L L (L.length : Int) (i : Int) r.1 r.2.1 r.2.2.1 r.2.2.2.1 r.2.2.2.2) (replayV L.length (L.drop i) i r) := by
  intro d
  induction d with
  | zero =>
    intro i r hs hd hi
    rw [List.drop_eq_nil_of_le (by omega)]
    refine Ev.up ?_
    simp only [review_Replay.l0]
    exact Ev.iteN (by omega) (Ev.now _)
  | succ d ih =>
    intro i r hs hd hi
    have hlt : i < L.length := by omega
    rw [drop_rdT hlt]
    refine Ev.up ?_
    simp only [review_Replay.l0, replayV]
    rw [wrap_nat (i := i) (by omega)]
    refine Ev.iteP (by omega) (Ev.iteP (by omega) (Ev.iteP (by omega) (Ev.bind (apply_ev r _ hs) ?_)))
    unfold applyV
    by_cases h : okV r (rd_T34 L (i : Int)) = 0
    · rw [if_pos h, if_pos h]
      exact Ev.iteP rfl (ih (i + 1) _ (done_short hs h) (by omega) (by omega))
    · rw [if_neg h, if_neg h]
      exact Ev.iteN h (Ev.now _)
theorem rreplay_l0 (L : List S34) (hL : L.length < 9223372036854775807) : ∀ (d i : Nat) (r : Rec), Short r → L.length - i = d → i ≤ L.length →
    Ev (fun k => examboardref15_Replay.l0 k L (i : Int) r.1 r.2.1 r.2.2.1 r.2.2.2.1 r.2.2.2.2) (replayV L.length (L.drop i) i r) := by
  intro d
  induction d with
  | zero =>
    intro i r hs hd hi
    rw [List.drop_eq_nil_of_le (by omega)]
    refine Ev.up ?_
    simp only [examboardref15_Replay.l0]
    exact Ev.iteN (by omega) (Ev.now _)
  | succ d ih =>
    intro i r hs hd hi
    have hlt : i < L.length := by omega
    rw [drop_rdT hlt]
    refine Ev.up ?_
    simp only [examboardref15_Replay.l0, replayV]
    rw [wrap_nat (i := i) (by omega)]
    refine Ev.iteP (by omega) (Ev.iteP (by omega) (Ev.bind (rapply_ev r _ hs) ?_))
    unfold applyV
    by_cases h : okV r (rd_T34 L (i : Int)) = 0
    · rw [if_pos h, if_pos h]
      exact Ev.iteP rfl (ih (i + 1) _ (done_short hs h) (by omega) (by omega))
    · rw [if_neg h, if_neg h]
      exact Ev.iteN h (Ev.now _)
theorem replay_short (n : Nat) : ∀ (l : List S34) (i : Nat) (r : Rec), Short r → (replayV n l i r).2.2.1.length ≤ 200 ∧ (replayV n l i r).2.2.2.1.length ≤ 200 ∧ (replayV n l i r).2.2.2.2.1.length ≤ 200
  | [], i, r, hs => by obtain ⟨h1, h2, h3⟩ := hs; simp only [replayV]; omega
  | a :: l, i, r, hs => by
    simp only [replayV]
    split
    · next h => exact replay_short n l (i + 1) _ (done_short hs h)
    · simp
theorem ReviewReplays (au : Int) (L : List S34) (_ : IntOk au) (h : RowOk 32 ActFits L) : ∃ k, examboardlaw15_ReviewReplays.f k au L = some true := by
  have hL : L.length < 9223372036854775807 := by have q : L.length * 32 ≤ 140737488351232 := h.1; omega
  refine Ev.rounds (g := fun k => examboardlaw15_ReviewReplays.f k au L) ?_
  have hns : Short (1, au, [], [], []) := ⟨Nat.le_refl _, Nat.le_refl _, Nat.zero_le _⟩
  obtain ⟨v, hv, hv', q1, q2, q3⟩ : ∃ v, Ev (fun k => review_Replay.f k au L) v ∧ Ev (fun k => examboardref15_Replay.f k au L) v ∧ v.2.2.1.length ≤ 200 ∧ v.2.2.2.1.length ≤ 200 ∧ v.2.2.2.2.1.length ≤ 200 := by
    unfold review_Replay.f examboardref15_Replay.f
    by_cases hn : 1 ≤ au ∧ au ≤ 9999999
    · have e : newV au = (1, au, [], [], [], 0) := by rw [newV, if_pos hn]
      refine ⟨replayV L.length L 0 (1, au, [], [], []), Ev.bindS (new_is au) ?_, Ev.bindS (rnew_is au) ?_, replay_short _ _ _ _ hns⟩
      · rw [e]; exact Ev.iteP rfl (replay_l0 L hL _ 0 (1, au, [], [], []) hns rfl (Nat.zero_le _))
      · rw [e]; exact Ev.iteP rfl (rreplay_l0 L hL _ 0 (1, au, [], [], []) hns rfl (Nat.zero_le _))
    · have e : newV au = (0, 0, [], [], [], 3) := by rw [newV, if_neg hn]
      refine ⟨(0, 0, [], [], [], 0, 3), Ev.bindS (new_is au) ?_, Ev.bindS (rnew_is au) ?_, by simp⟩
      · rw [e]; exact Ev.iteN (by simp) (Ev.now _)
      · rw [e]; exact Ev.iteN (by simp) (Ev.now _)
  unfold examboardlaw15_ReviewReplays.f
  exact Ev.bind hv (Ev.bind hv' (Ev.iteP rfl (Ev.iteP rfl (Ev.bind (same_ev v.1 v.2.1 v.2.2.1 v.2.2.2.1 v.2.2.2.2.1 (by omega) (by omega) (by omega)) (Ev.now _)))))
end Go.Proofs.Ytokmnbdnligcaaa.Pure
