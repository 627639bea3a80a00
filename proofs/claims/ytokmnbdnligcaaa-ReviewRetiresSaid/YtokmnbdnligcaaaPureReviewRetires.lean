/- Every item can be retired, and then nothing can be done with it: the plain statement. -/
import Derived.Test.YtokmnbdnligcaaaAllx24
import Derived.Test.YtokmnbdnligcaaaOpens
import Derived.Test.YtokmnbdnligcaaaPerform
set_option linter.unusedVariables false
namespace Go.Proofs.Ytokmnbdnligcaaa.Pure
open Go.RowKit Go.Proofs.YtokmnbdnligcaaaW.PrintWords Go.Proofs.Ytokmnbdnligcaaa.All Go.Proofs.Ytokmnbdnligcaaa.Opener Go.Proofs.Ytokmnbdnligcaaa.Spec
theorem bits_16_16 : Go.bits .and .i64 16 16 = 16 := by decide
theorem bits_16_1 : Go.bits .and .i64 16 1 = 0 := by decide
theorem bits_1_1 : Go.bits .and .i64 1 1 = 1 := by decide
theorem acts_none (g : Int → Int) : ∀ (n : Nat) (i : Int) (acc : List Int), (∀ j, i ≤ j → j < i + n → g j ≠ 0) → acts g n i acc = acc
  | 0, _, _, _ => rfl
  | n + 1, i, acc, h => by
    simp only [acts]
    rw [if_neg (h i (Int.le_refl _) (by omega))]
    exact acts_none g n (i + 1) acc (fun j h1 h2 => h j (by omega) (by omega))
/-- Nothing may be done with a retired item. -/
theorem retired_none (au : Int) (ap : List Int) (log : List S34) (us ro ti : Int) : actionsV 7 au ap log us ro ti = [] := by
  refine acts_none _ 9 1 [] (fun j h1 h2 => ?_)
  have hr : rolesV j 7 = 0 := by
    by_cases q : rolesV j 7 = 0
    · exact q
    · have := roles_told q; omega
  simp only [allowedV]
  rw [if_neg (by omega), hr]
  simp only [↓reduceIte]
  repeat' split
  all_goals decide
/-- A new item may be submitted by its author, and nothing else. -/
theorem new_one (au : Int) (h : 1 ≤ au ∧ au ≤ 9999999) : actionsV 1 au [] [] au 1 0 = [1] := by
  have h1 : allowedV 1 au [] [] 1 au 1 0 = 0 := by
    simp only [allowedV]
    rw [if_neg (by omega), if_neg (by omega), if_neg (by simp), if_neg (by simp [lateV]), show rolesV 1 1 = 1 by decide, if_neg (by decide), bits_1_1, if_neg (by decide)]
    simp [dutyV]
  have h2 : ∀ j, 2 ≤ j → j < 10 → allowedV 1 au [] [] j au 1 0 ≠ 0 := by
    intro j h2 h9
    simp only [allowedV]
    rw [if_neg (by omega), if_neg (by omega), if_neg (by simp), if_neg (by simp [lateV])]
    by_cases q : rolesV j 1 = 0
    · rw [if_pos q]; decide
    · have hq := roles_told q
      obtain rfl : j = 8 := by omega
      rw [if_neg q, show rolesV 8 1 = 16 by decide, bits_16_1, if_pos rfl]; decide
  have e : actionsV 1 au [] [] au 1 0 = acts (fun kd => allowedV 1 au [] [] kd au 1 0) 8 2 [1] := by
    simp only [actionsV, acts]
    rw [if_pos h1]; rfl
  rw [e]
  exact acts_none _ 8 2 [1] (fun j q1 q2 => h2 j q1 (by omega))
theorem ReviewRetires (au : Int) (L : List S34) (us ro ti : Int) (_ : IntOk au) (h : RowOk 32 ActFits L) (_ : IntOk us) (_ : IntOk ro) (_ : IntOk ti) : ∃ k, examboardlaw15_ReviewRetires.f k au L us ro ti = some true := by
  have hL : L.length < 9223372036854775807 := by have q : L.length * 32 ≤ 140737488351232 := h.1; omega
  refine Ev.rounds (g := fun k => examboardlaw15_ReviewRetires.f k au L us ro ti) ?_
  have ht : Ev (fun k => examboardlaw15_ReviewRetires.j0 k au L us ro ti true) true := by
    refine Ev.up ?_
    simp only [examboardlaw15_ReviewRetires.j0]
    exact Ev.iteP trivial (Ev.now _)
  unfold examboardlaw15_ReviewRetires.f
  refine Ev.iteC (fun _ => ht) (fun h1 => ?_)
  by_cases h2 : au > 9999999
  · rwa [show decide (au > 9999999) = true from decide_eq_true h2]
  rw [show decide (au > 9999999) = false from decide_eq_false h2]
  refine Ev.up ?_
  simp only [examboardlaw15_ReviewRetires.j0]
  refine Ev.iteN (by simp) (Ev.bind (perform_ev au L (by omega) hL) ?_)
  have hr : Runs au ((L.take 300).foldl stepV (newR au)) := runs_fold _ _ .new
  have hs := runs_short hr
  have hst := (runs_told hr).2.1
  obtain ⟨t1, t2⟩ := runs_times hr
  generalize (L.take 300).foldl stepV (newR au) = r at hst hs t1 t2 ⊢
  obtain ⟨st, au', ap, fa, log⟩ := r
  simp only at hst t1 t2
  have hs' := hs
  obtain ⟨s1, s2, s3⟩ := hs
  simp only at s1 s2 s3
  refine Ev.iteP rfl (Ev.iteC (fun _ => Ev.now _) (fun hlen => ?_))
  have hlen' : log.length < 200 := by simp only at hlen; omega
  -- behind the retirement
  have j2 : ∀ (au2 : Int) (ap2 fa2 : List Int) (log2 : List S34), ap2.length < 9223372036854775807 → log2.length < 9223372036854775807 → Ev (fun k => examboardlaw15_ReviewRetires.j2 k au us ro ti 7 au2 ap2 fa2 log2) true := by
    intro au2 ap2 fa2 log2 q1 q2
    refine Ev.up ?_
    simp only [examboardlaw15_ReviewRetires.j2]
    refine Ev.bind (actions_ev 7 au2 ap2 fa2 log2 us ro ti q1 q2) ?_
    rw [retired_none]
    refine Ev.iteP rfl (Ev.bindS (new_is au) ?_)
    rw [newV, if_pos (by omega)]
    refine Ev.bind (actions_ev 1 au [] [] [] au 1 0 (by simp) (by simp)) ?_
    rw [new_one au (by omega)]
    exact Ev.iteP rfl (Ev.iteP (by simp) (Ev.is (by simp [rd])))
  have j1 : ∀ last : Int, 0 ≤ last → last ≤ 1099511627776 → lateV log last = false → Ev (fun k => examboardlaw15_ReviewRetires.j1 k au us ro ti last st au' ap fa log) true := by
    intro last l0 l1 l2
    refine Ev.up ?_
    simp only [examboardlaw15_ReviewRetires.j1]
    refine Ev.iteC (fun h7 => ?_) (fun h7 => ?_)
    · rw [h7]; exact j2 au' ap fa log (by omega) (by omega)
    · have hroles : rolesV 8 st = 16 := by unfold rolesV; rw [if_pos (by omega)]
      have hok : okV (st, au', ap, fa, log) ⟨8, 1, 16, last⟩ = 0 := by
        simp only [okV, allowedV]
        rw [if_neg (by omega), if_neg (by omega), if_neg (by omega), if_neg (by rw [l2]; simp), hroles, if_neg (by decide), bits_16_16, if_neg (by decide)]
        simp [dutyV]
      refine Ev.bind (apply_ev (st, au', ap, fa, log) ⟨8, 1, 16, last⟩ hs') ?_
      have e : applyV (st, au', ap, fa, log) ⟨8, 1, 16, last⟩ = (7, au', ap, fa, log ++ [⟨8, 1, 16, last⟩], 0) := by
        unfold applyV
        rw [if_pos hok]
        simp [doneV]
      rw [e]
      exact Ev.iteP rfl (Ev.iteP rfl (j2 au' ap fa _ (by omega) (by simp; omega)))
  refine Ev.iteC (fun hp => ?_) (fun hp => ?_)
  · have hp' : 0 < log.length := by simp only at hp; omega
    have ew : wrap64 ((log.length : Int) - 1) = ((log.length - 1 : Nat) : Int) := by rw [wrap_in (by omega) (by omega)]; omega
    show Ev (fun k => if 0 ≤ wrap64 ((log.length : Int) - 1) then if wrap64 ((log.length : Int) - 1) < (log.length : Int) then _ else _ else _) true
    rw [ew]
    have ht := t1 (log.length - 1) (by omega)
    refine Ev.iteP (by omega) (Ev.iteP (by omega) (j1 _ ht.1 ht.2 ?_))
    rw [lateV, if_pos hp', show ((log.length : Int) - 1) = ((log.length - 1 : Nat) : Int) by omega]
    simp
  · have hp' : ¬ 0 < log.length := by simp only at hp; omega
    exact j1 0 (by omega) (by omega) (by rw [lateV, if_neg hp'])
end Go.Proofs.Ytokmnbdnligcaaa.Pure
