/- A record is what replaying its log leads to: the plain statement. -/
import Derived.Test.YtokmnbdnligcaaaAllx32
import Derived.Test.YtokmnbdnligcaaaOpens
import Derived.Test.YtokmnbdnligcaaaPerform
import Derived.Test.YtokmnbdnligcaaaSame
set_option linter.unusedVariables false
namespace Go.Proofs.Ytokmnbdnligcaaa.Pure
open Go.RowKit Go.Proofs.YtokmnbdnligcaaaW.PrintWords Go.Proofs.Ytokmnbdnligcaaa.All Go.Proofs.Ytokmnbdnligcaaa.Opener Go.Proofs.Ytokmnbdnligcaaa.Spec
theorem rdT_mid {l rest : List S34} {a : S34} : rd_T34 (l ++ a :: rest) (l.length : Int) = a := by
  simp [rd_T34, List.getD_eq_getElem?_getD]
theorem replay_runs {au : Int} {L : List S34} (hL : L.length < 9223372036854775807) {r : Rec} (h : Runs au r) : ∀ rest : List S34, L = r.2.2.2.2 ++ rest → ∀ res,
    Ev (fun k => review_Replay.l0 k L L (L.length : Int) (r.2.2.2.2.length : Int) r.1 r.2.1 r.2.2.1 r.2.2.2.1 r.2.2.2.2) res → Ev (fun k => review_Replay.l0 k L L (L.length : Int) 0 1 au [] [] []) res := by
  induction h with
  | new => exact fun rest _ res h => h
  | act r a hr h0 ih =>
    intro rest e res hres
    rw [done_log, List.append_assoc, List.singleton_append] at e
    refine ih (a :: rest) e res ?_
    have hlen : L.length = r.2.2.2.2.length + (rest.length + 1) := by rw [e]; simp
    have ha : rd_T34 L (r.2.2.2.2.length : Int) = a := by rw [e]; exact rdT_mid
    refine Ev.up ?_
    simp only [review_Replay.l0]
    rw [ha, wrap_nat (i := r.2.2.2.2.length) (by omega)]
    refine Ev.iteP (by omega) (Ev.iteP (by omega) (Ev.iteP (by omega) (Ev.bind (apply_ev r a (runs_short hr)) ?_)))
    have e2 : applyV r a = ((doneV r a).1, (doneV r a).2.1, (doneV r a).2.2.1, (doneV r a).2.2.2.1, (doneV r a).2.2.2.2, 0) := by unfold applyV; rw [if_pos h0]
    rw [e2]
    refine Ev.iteP rfl ?_
    have hd : (doneV r a).2.2.2.2.length = r.2.2.2.2.length + 1 := by rw [done_log]; simp
    rw [hd] at hres
    exact hres
theorem ReviewHistory (au : Int) (L : List S34) (_ : IntOk au) (h : RowOk 32 ActFits L) : ∃ k, examboardlaw15_ReviewHistory.f k au L = some true := by
  have hL : L.length < 9223372036854775807 := by have q : L.length * 32 ≤ 140737488351232 := h.1; omega
  refine Ev.rounds (g := fun k => examboardlaw15_ReviewHistory.f k au L) ?_
  have ht : ¬ (1 ≤ au ∧ au ≤ 9999999) → Ev (fun k => examboardlaw15_ReviewHistory.j0 k au L true) true := by
    intro hn
    refine Ev.up ?_
    simp only [examboardlaw15_ReviewHistory.j0]
    refine Ev.iteP trivial (Ev.bindS (new_is au) ?_)
    rw [newV, if_neg hn]
    exact Ev.now _
  unfold examboardlaw15_ReviewHistory.f
  refine Ev.iteC (fun _ => ht (by omega)) (fun h1 => ?_)
  by_cases h2 : au > 9999999
  · rw [show decide (au > 9999999) = true from decide_eq_true h2]; exact ht (by omega)
  rw [show decide (au > 9999999) = false from decide_eq_false h2]
  refine Ev.up ?_
  simp only [examboardlaw15_ReviewHistory.j0]
  refine Ev.iteN (by simp) (Ev.bind (perform_ev au L (by omega) hL) ?_)
  have hr : Runs au ((L.take 300).foldl stepV (newR au)) := runs_fold _ _ .new
  generalize (L.take 300).foldl stepV (newR au) = r at hr ⊢
  have hs := runs_short hr
  obtain ⟨t1, t2⟩ := runs_times hr
  have hlog : r.2.2.2.2.length < 9223372036854775807 := by have := hs.2.2; omega
  refine Ev.iteP rfl ?_
  have hend : Ev (fun k => review_Replay.f k au r.2.2.2.2) (r.1, r.2.1, r.2.2.1, r.2.2.2.1, r.2.2.2.2, (r.2.2.2.2.length : Int), 0) := by
    unfold review_Replay.f
    refine Ev.bindS (new_is au) ?_
    rw [newV, if_pos (by omega)]
    refine Ev.iteP rfl (replay_runs (L := r.2.2.2.2) hlog hr [] (by simp) _ ?_)
    refine Ev.up ?_
    simp only [review_Replay.l0]
    exact Ev.iteN (by omega) (Ev.now _)
  have hl : ∀ (d i : Nat), r.2.2.2.2.length - i = d → 1 ≤ i → Ev (fun k => examboardlaw15_ReviewHistory.l0 k au (i : Int) r.1 r.2.1 r.2.2.1 r.2.2.2.1 r.2.2.2.2) true := by
    intro d
    induction d with
    | zero =>
      intro i hd hi
      refine Ev.up ?_
      simp only [examboardlaw15_ReviewHistory.l0]
      refine Ev.iteN (by omega) (Ev.bind hend (Ev.iteP rfl (Ev.iteP rfl ?_)))
      exact Ev.bind (same_ev r.1 r.2.1 r.2.2.1 r.2.2.2.1 r.2.2.2.2 (by have := hs.1; omega) (by have := hs.2.1; omega) hlog) (Ev.now _)
    | succ d ih =>
      intro i hd hi
      have q := t2 (i - 1) (by omega)
      rw [show i - 1 + 1 = i by omega] at q
      have ew : wrap64 ((i : Int) - 1) = ((i - 1 : Nat) : Int) := by rw [wrap_in (by omega) (by omega)]; omega
      refine Ev.up ?_
      simp only [examboardlaw15_ReviewHistory.l0]
      rw [ew, wrap_nat (i := i) (by omega)]
      exact Ev.iteP (by omega) (Ev.iteP (by omega) (Ev.iteP (by omega) (Ev.iteP (by omega) (Ev.iteN (by omega) (ih (i + 1) (by omega) (by omega))))))
  exact hl _ 1 rfl (Nat.le_refl _)
end Go.Proofs.Ytokmnbdnligcaaa.Pure
