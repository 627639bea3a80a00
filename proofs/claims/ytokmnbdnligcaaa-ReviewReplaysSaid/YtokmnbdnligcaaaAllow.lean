/- The program's Allowed and Actions and the reference's answer as the plain words say. -/
import Derived.Test.YtokmnbdnligcaaaSpec
set_option linter.unusedVariables false
namespace Go.Proofs.Ytokmnbdnligcaaa.Spec
open Go.RowKit Go.Proofs.YtokmnbdnligcaaaW.PrintWords Go.Proofs.Ytokmnbdnligcaaa.All

theorem bits_comm (a b : Int) : Go.bits .and .i64 a b = Go.bits .and .i64 b a := by
  unfold Go.bits
  simp only [BitVec.and_comm]
theorem late_case (log : List S34) (ti : Int) (hl : log.length < 9223372036854775807) (h : 0 < log.length) :
    0 ≤ wrap64 ((log.length : Int) - 1) ∧ wrap64 ((log.length : Int) - 1) < (log.length : Int) ∧ decide (ti < (rd_T34 log (wrap64 ((log.length : Int) - 1))).f3) = lateV log ti := by
  rw [wrap_in (by omega) (by omega)]
  refine ⟨by omega, by omega, ?_⟩
  rw [lateV, if_pos h]
theorem allowed_ev (st au : Int) (ap fa : List Int) (log : List S34) (kd us ro ti : Int) (ha : ap.length < 9223372036854775807) (hl : log.length < 9223372036854775807) :
    Ev (fun k => review_Allowed.f k st au ap fa log kd us ro ti) (allowedV st au ap log kd us ro ti) := by
  have h2 : Ev (fun k => review_Allowed.j2 k (lateV log ti) st au ap fa log kd us ro ti)
      (if lateV log ti = true then 15 else if rolesV kd st = 0 then 8 else if Go.bits .and .i64 (rolesV kd st) ro = 0 then 9 else if dutyV au ap kd us = true then 10 else 0) := by
    refine Ev.up ?_
    simp only [review_Allowed.j2]
    refine Ev.iteC (fun h => Ev.is (by rw [if_pos h])) (fun h => ?_)
    rw [if_neg h]
    refine Ev.bindS rfl (Ev.iteC (fun h => Ev.is (by rw [if_pos h])) (fun h => ?_))
    rw [if_neg h]
    refine Ev.iteC (fun h => Ev.is (by rw [if_pos h])) (fun h => ?_)
    rw [if_neg h]
    refine Ev.bind (duty_ev st au ap fa log kd us ro ti ha) (Ev.iteC (fun h => Ev.is (by rw [if_pos h])) (fun h => Ev.is (by rw [if_neg h])))
  have h1 : Ev (fun k => review_Allowed.j1 k (decide (us < 1 ∨ 9999999 < us ∨ ti < 0 ∨ 1099511627776 < ti)) st au ap fa log kd us ro ti)
      (if us < 1 ∨ 9999999 < us ∨ ti < 0 ∨ 1099511627776 < ti then 3 else if 200 ≤ log.length then 5
        else if lateV log ti = true then 15 else if rolesV kd st = 0 then 8 else if Go.bits .and .i64 (rolesV kd st) ro = 0 then 9 else if dutyV au ap kd us = true then 10 else 0) := by
    refine Ev.up ?_
    simp only [review_Allowed.j1, decide_eq_true_eq]
    refine Ev.iteC (fun h => Ev.is (by rw [if_pos h])) (fun h => ?_)
    rw [if_neg h]
    refine Ev.iteC (fun h => Ev.is (by rw [if_pos (by omega)])) (fun h => ?_)
    rw [if_neg (by omega)]
    by_cases h0 : 0 < log.length
    · obtain ⟨q1, q2, q3⟩ := late_case log ti hl h0
      rw [q3]
      exact Ev.iteP (by omega) (Ev.iteP q1 (Ev.iteP q2 h2))
    · have q3 : lateV log ti = false := by rw [lateV, if_neg h0]
      rw [q3] at h2 ⊢
      exact Ev.iteN (by omega) h2
  have h0 : Ev (fun k => review_Allowed.j0 k (decide (kd < 1 ∨ 9 < kd)) st au ap fa log kd us ro ti) (allowedV st au ap log kd us ro ti) := by
    refine Ev.up ?_
    simp only [review_Allowed.j0, decide_eq_true_eq]
    unfold allowedV
    refine Ev.iteC (fun h => Ev.is (by rw [if_pos h])) (fun h => ?_)
    rw [if_neg h]
    by_cases hu : us < 1 ∨ 9999999 < us
    · rw [show decide (us < 1 ∨ 9999999 < us ∨ ti < 0 ∨ 1099511627776 < ti) = true from decide_eq_true (by omega)] at h1
      refine Ev.bindS (a := false) ?_ (Ev.iteN (by simp) h1)
      unfold review_user.f
      by_cases q : us ≥ 1
      · rw [if_pos q]; simp; omega
      · rw [if_neg q]
    · refine Ev.bindS (a := true) ?_ (Ev.iteP rfl ?_)
      · unfold review_user.f; rw [if_pos (by omega)]; simp; omega
      · refine Ev.iteC (fun h => ?_) (fun h => ?_)
        · rwa [show decide (us < 1 ∨ 9999999 < us ∨ ti < 0 ∨ 1099511627776 < ti) = true from decide_eq_true (by omega)] at h1
        · rwa [show decide (us < 1 ∨ 9999999 < us ∨ ti < 0 ∨ 1099511627776 < ti) = decide (ti > 1099511627776) from decide_eq_decide.2 (by omega)] at h1
  unfold review_Allowed.f
  refine Ev.iteC (fun h => ?_) (fun h => ?_)
  · rwa [show decide (kd < 1 ∨ 9 < kd) = true from decide_eq_true (by omega)] at h0
  · rwa [show decide (kd < 1 ∨ 9 < kd) = decide (kd > 9) from decide_eq_decide.2 (by omega)] at h0

/-! ### the reference -/
def roleV (kd st : Int) : Int := if kd = 1 ∨ kd = 9 then 1 else if kd = 2 then 2 else if kd = 4 then 4 else if kd = 5 then 8 else if kd = 6 then 24 else if kd = 3 then (if st = 3 then 4 else 2) else 16
theorem role_ev (kd st : Int) : Ev (fun k => examboardref15_role.f k kd st) (roleV kd st) := by
  have h0 : Ev (fun k => examboardref15_role.j0 k st kd (decide (kd = 1 ∨ kd = 9))) (roleV kd st) := by
    refine Ev.up ?_
    simp only [examboardref15_role.j0, decide_eq_true_eq]
    unfold roleV
    repeat' split
    all_goals exact Ev.now _
  unfold examboardref15_role.f
  refine Ev.iteC (fun h => ?_) (fun h => ?_)
  · rw [show (kd == 1) = decide (kd = 1 ∨ kd = 9) by simp [h]]; exact h0
  · rw [show (kd == 9) = decide (kd = 1 ∨ kd = 9) by by_cases h4 : kd = 9 <;> simp [h4, h]]; exact h0
theorem possible_is (kd st : Int) (h1 : 1 ≤ kd) (h9 : kd ≤ 9) : ∃ b, examboardref15_possible.f kd st = some b ∧ (b = true → rolesV kd st = roleV kd st ∧ rolesV kd st ≠ 0) ∧ (b = false → rolesV kd st = 0) := by
  have h : kd = 1 ∨ kd = 2 ∨ kd = 3 ∨ kd = 4 ∨ kd = 5 ∨ kd = 6 ∨ kd = 7 ∨ kd = 8 ∨ kd = 9 := by omega
  rcases h with rfl | rfl | rfl | rfl | rfl | rfl | rfl | rfl | rfl <;> simp only [examboardref15_possible.f, rolesV, roleV] <;> simp <;> repeat' split
  all_goals first | omega | (refine ⟨?_, ?_⟩ <;> intros <;> omega) | (simp_all; done) | (simp_all; omega)
theorem rallowed_ev (st au : Int) (ap fa : List Int) (log : List S34) (kd us ro ti : Int) (ha : ap.length < 9223372036854775807) (hl : log.length < 9223372036854775807) :
    Ev (fun k => examboardref15_Allowed.f k st au ap fa log kd us ro ti) (allowedV st au ap log kd us ro ti) := by
  by_cases hk : kd < 1 ∨ 9 < kd
  · have h0 : Ev (fun k => examboardref15_Allowed.j0 k true st au ap fa log kd us ro ti) (allowedV st au ap log kd us ro ti) := by
      refine Ev.up ?_
      simp only [examboardref15_Allowed.j0]
      exact Ev.iteP trivial (Ev.is (by rw [allowedV, if_pos hk]))
    unfold examboardref15_Allowed.f
    refine Ev.iteC (fun h => h0) (fun h => ?_)
    rw [show decide (kd > 9) = true from decide_eq_true (by omega)]; exact h0
  obtain ⟨b, hb, hb1, hb2⟩ := possible_is kd st (by omega) (by omega)
  have h2 : Ev (fun k => examboardref15_Allowed.j2 k (lateV log ti) st au ap fa log kd us ro ti)
      (if lateV log ti = true then 15 else if rolesV kd st = 0 then 8 else if Go.bits .and .i64 (rolesV kd st) ro = 0 then 9 else if dutyV au ap kd us = true then 10 else 0) := by
    refine Ev.up ?_
    simp only [examboardref15_Allowed.j2]
    refine Ev.iteC (fun h => Ev.is (by rw [if_pos h])) (fun h => ?_)
    rw [if_neg h]
    refine Ev.bindS hb (Ev.iteC (fun h => ?_) (fun h => Ev.is (by rw [if_pos (hb2 (by simpa using h))])))
    obtain ⟨q1, q2⟩ := hb1 h
    rw [if_neg q2]
    refine Ev.bind (role_ev kd st) ?_
    rw [bits_comm, ← q1]
    refine Ev.iteC (fun h => Ev.is (by rw [if_pos h])) (fun h => ?_)
    rw [if_neg h]
    refine Ev.bind (rduty_ev st au ap fa log kd us ro ti ha) (Ev.iteC (fun h => Ev.is (by rw [if_pos h])) (fun h => Ev.is (by rw [if_neg h])))
  have h1 : Ev (fun k => examboardref15_Allowed.j1 k (decide (us < 1 ∨ 9999999 < us ∨ ti < 0 ∨ 1099511627776 < ti)) st au ap fa log kd us ro ti)
      (if us < 1 ∨ 9999999 < us ∨ ti < 0 ∨ 1099511627776 < ti then 3 else if 200 ≤ log.length then 5
        else if lateV log ti = true then 15 else if rolesV kd st = 0 then 8 else if Go.bits .and .i64 (rolesV kd st) ro = 0 then 9 else if dutyV au ap kd us = true then 10 else 0) := by
    refine Ev.up ?_
    simp only [examboardref15_Allowed.j1, decide_eq_true_eq]
    refine Ev.iteC (fun h => Ev.is (by rw [if_pos h])) (fun h => ?_)
    rw [if_neg h]
    refine Ev.iteC (fun h => Ev.is (by rw [if_pos (by omega)])) (fun h => ?_)
    rw [if_neg (by omega)]
    by_cases h0 : 0 < log.length
    · obtain ⟨q1, q2, q3⟩ := late_case log ti hl h0
      rw [q3]
      exact Ev.iteP (by omega) (Ev.iteP q1 (Ev.iteP q2 h2))
    · have q3 : lateV log ti = false := by rw [lateV, if_neg h0]
      rw [q3] at h2 ⊢
      exact Ev.iteN (by omega) h2
  have h0 : Ev (fun k => examboardref15_Allowed.j0 k false st au ap fa log kd us ro ti) (allowedV st au ap log kd us ro ti) := by
    refine Ev.up ?_
    simp only [examboardref15_Allowed.j0]
    unfold allowedV
    rw [if_neg hk]
    refine Ev.iteN (by simp) ?_
    by_cases hu : us < 1 ∨ 9999999 < us ∨ ti < 0
    · rw [show decide (us < 1 ∨ 9999999 < us ∨ ti < 0 ∨ 1099511627776 < ti) = true from decide_eq_true (by omega)] at h1
      exact Ev.iteC (fun _ => h1) (fun _ => Ev.iteC (fun _ => h1) (fun _ => Ev.iteC (fun _ => h1) (fun _ => by omega)))
    · rw [show decide (us < 1 ∨ 9999999 < us ∨ ti < 0 ∨ 1099511627776 < ti) = decide (ti > 1099511627776) from decide_eq_decide.2 (by omega)] at h1
      exact Ev.iteN (by omega) (Ev.iteN (by omega) (Ev.iteN (by omega) h1))
  unfold examboardref15_Allowed.f
  refine Ev.iteN (by omega) ?_
  rw [show decide (kd > 9) = false from decide_eq_false (by omega)]; exact h0

/-! ### the kinds that are offered -/
def acts (g : Int → Int) : Nat → Int → List Int → List Int
  | 0, _, acc => acc
  | n + 1, i, acc => acts g n (i + 1) (if g i = 0 then acc ++ [i] else acc)
def actionsV (st au : Int) (ap : List Int) (log : List S34) (us ro ti : Int) : List Int := acts (fun kd => allowedV st au ap log kd us ro ti) 9 1 []
theorem acts_length (g : Int → Int) : ∀ (n : Nat) (i : Int) (acc : List Int), (acts g n i acc).length ≤ acc.length + n
  | 0, _, _ => Nat.le_refl _
  | n + 1, i, acc => by
    have h := acts_length g n (i + 1) (if g i = 0 then acc ++ [i] else acc)
    have h2 : (if g i = 0 then acc ++ [i] else acc).length ≤ acc.length + 1 := by split <;> simp
    simp only [acts]; omega
theorem actions_ev (st au : Int) (ap fa : List Int) (log : List S34) (us ro ti : Int) (ha : ap.length < 9223372036854775807) (hl : log.length < 9223372036854775807) :
    Ev (fun k => review_Actions.f k st au ap fa log us ro ti) (actionsV st au ap log us ro ti) := by
  have h : ∀ (n : Nat) (i : Int) (acc : List Int), i + n = 10 → 1 ≤ i → acc.length < 17592186044416 - n → Ev (fun k => review_Actions.l0 k us ro ti acc i st au ap fa log) (acts (fun kd => allowedV st au ap log kd us ro ti) n i acc) := by
    intro n
    induction n with
    | zero =>
      intro i acc hi h1 hacc
      refine Ev.up ?_
      simp only [review_Actions.l0, acts]
      exact Ev.iteN (by omega) (Ev.now _)
    | succ n ih =>
      intro i acc hi h1 hacc
      refine Ev.up ?_
      simp only [review_Actions.l0, acts]
      rw [wrap_in (by omega) (by omega)]
      refine Ev.iteP (by omega) (Ev.bind (allowed_ev st au ap fa log i us ro ti ha hl) (Ev.iteC (fun h => ?_) (fun h => ?_)))
      · rw [if_pos h]; exact Ev.iteP (by omega) (ih (i + 1) _ (by omega) (by omega) (by simp; omega))
      · rw [if_neg h]; exact ih (i + 1) _ (by omega) (by omega) (by omega)
  exact h 9 1 [] (by omega) (by omega) (by simp)
theorem ractions_ev (st au : Int) (ap fa : List Int) (log : List S34) (us ro ti : Int) (ha : ap.length < 9223372036854775807) (hl : log.length < 9223372036854775807) :
    Ev (fun k => examboardref15_Actions.f k st au ap fa log us ro ti) (actionsV st au ap log us ro ti) := by
  have h : ∀ (n : Nat) (i : Int) (acc : List Int), i + n = 10 → 1 ≤ i → acc.length < 17592186044416 - n → Ev (fun k => examboardref15_Actions.l0 k us ro ti acc i st au ap fa log) (acts (fun kd => allowedV st au ap log kd us ro ti) n i acc) := by
    intro n
    induction n with
    | zero =>
      intro i acc hi h1 hacc
      refine Ev.up ?_
      simp only [examboardref15_Actions.l0, acts]
      exact Ev.iteN (by omega) (Ev.now _)
    | succ n ih =>
      intro i acc hi h1 hacc
      refine Ev.up ?_
      simp only [examboardref15_Actions.l0, acts]
      rw [wrap_in (by omega) (by omega)]
      refine Ev.iteP (by omega) (Ev.bind (rallowed_ev st au ap fa log i us ro ti ha hl) (Ev.iteC (fun h => ?_) (fun h => ?_)))
      · rw [if_pos h]; exact Ev.iteP (by omega) (ih (i + 1) _ (by omega) (by omega) (by simp; omega))
      · rw [if_neg h]; exact ih (i + 1) _ (by omega) (by omega) (by omega)
  exact h 9 1 [] (by omega) (by omega) (by simp)
end Go.Proofs.Ytokmnbdnligcaaa.Spec
