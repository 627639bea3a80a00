/- Performing the allowed actions of a log, in plain words; what holds of every record that it leads to. -/
import Derived.Test.YtokmnbdnligcaaaAllx21
import Derived.Test.YtokmnbdnligcaaaApply
set_option linter.unusedVariables false
namespace Go.Proofs.Ytokmnbdnligcaaa.Spec
open Go.RowKit Go.Proofs.YtokmnbdnligcaaaW.PrintWords Go.Proofs.Ytokmnbdnligcaaa.All

def stepV (r : Rec) (a : S34) : Rec := if okV r a = 0 then doneV r a else r
def newR (au : Int) : Rec := (1, au, [], [], [])
theorem new_short (au : Int) : Short (newR au) := ⟨Nat.le_refl _, Nat.le_refl _, Nat.zero_le _⟩
theorem step_short {r : Rec} {a : S34} (hs : Short r) : Short (stepV r a) := by
  unfold stepV; split
  · next h => exact done_short hs h
  · exact hs
theorem perform_l0 (L : List S34) (hL : L.length < 9223372036854775807) : ∀ (d i : Nat) (r : Rec), Short r → (L.take 300).length - i = d → i ≤ (L.take 300).length →
    Ev (fun k => examboardlaw15_perform.l0 k L (i : Int) r.1 r.2.1 r.2.2.1 r.2.2.2.1 r.2.2.2.2)
      ((((L.take 300).drop i).foldl stepV r).1, (((L.take 300).drop i).foldl stepV r).2.1, (((L.take 300).drop i).foldl stepV r).2.2.1, (((L.take 300).drop i).foldl stepV r).2.2.2.1, (((L.take 300).drop i).foldl stepV r).2.2.2.2, true) := by
  have hT : (L.take 300).length = min 300 L.length := List.length_take
  intro d
  induction d with
  | zero =>
    intro i r hs hd hi
    rw [List.drop_eq_nil_of_le (by omega)]
    refine Ev.up ?_
    simp only [examboardlaw15_perform.l0]
    have q : ∀ b : Bool, b = false → Ev (fun k => examboardlaw15_perform.j2 k L (i : Int) b r.1 r.2.1 r.2.2.1 r.2.2.2.1 r.2.2.2.2) (r.1, r.2.1, r.2.2.1, r.2.2.2.1, r.2.2.2.2, true) := by
      rintro _ rfl
      refine Ev.up ?_
      simp only [examboardlaw15_perform.j2]
      exact Ev.iteN (by simp) (Ev.now _)
    exact Ev.iteC (fun h => q _ (decide_eq_false (by omega))) (fun h => q _ rfl)
  | succ d ih =>
    intro i r hs hd hi
    have hlt : i < (L.take 300).length := by omega
    have hlt2 : i < L.length := by omega
    have he : (L.take 300).drop i = rd_T34 L (i : Int) :: (L.take 300).drop (i + 1) := by
      rw [drop_rdT hlt, rd_T34, rd_T34, Int.toNat_natCast, List.getD_eq_getElem?_getD, List.getElem?_take, if_pos (by omega), ← List.getD_eq_getElem?_getD]
    rw [he, List.foldl_cons]
    have h1 := ih (i + 1) (stepV r (rd_T34 L (i : Int))) (step_short hs) (by omega) (by omega)
    refine Ev.up ?_
    simp only [examboardlaw15_perform.l0]
    refine Ev.iteP (by omega) ?_
    rw [show decide ((i : Int) < 300) = true from decide_eq_true (by omega)]
    refine Ev.up ?_
    simp only [examboardlaw15_perform.j2]
    refine Ev.iteP trivial (Ev.iteP (by omega) (Ev.iteP (by omega) ?_))
    refine Ev.bind (apply_ev r (rd_T34 L (i : Int)) hs) ?_
    have hap : r.2.2.1.length < 9223372036854775807 := by have := hs.1; have := hs.2.2; omega
    have hlog : r.2.2.2.2.length < 9223372036854775807 := by have := hs.2.2; omega
    refine Ev.bind (allowed_ev r.1 r.2.1 r.2.2.1 r.2.2.2.1 r.2.2.2.2 (rd_T34 L (i : Int)).f0 (rd_T34 L (i : Int)).f1 (rd_T34 L (i : Int)).f2 (rd_T34 L (i : Int)).f3 hap hlog) ?_
    generalize rd_T34 L (i : Int) = a at h1 ⊢
    show Ev (fun k => examboardlaw15_perform.j3 k L (i : Int) (applyV r a).2.2.2.2.2 (((applyV r a).2.2.2.2.2 == 0) != (okV r a == 0)) r.1 r.2.1 r.2.2.1 r.2.2.2.1 r.2.2.2.2 (applyV r a).1 (applyV r a).2.1 (applyV r a).2.2.1 (applyV r a).2.2.2.1 (applyV r a).2.2.2.2.1) _
    refine Ev.up ?_
    simp only [examboardlaw15_perform.j3]
    unfold applyV
    by_cases h : okV r a = 0
    · rw [show stepV r a = doneV r a from if_pos h] at h1 ⊢
      rw [if_pos h]
      have hlen : ((doneV r a).2.2.2.2.length : Int) = wrap64 ((r.2.2.2.2.length : Int) + 1) := by
        rw [wrap_in (by omega) (by omega), done_log]; simp
      rw [h, wrap_nat (i := i) (by omega)]
      exact Ev.iteN (by simp) (Ev.iteP rfl (Ev.iteP hlen h1))
    · rw [show stepV r a = r from if_neg h] at h1 ⊢
      rw [if_neg h, wrap_nat (i := i) (by omega)]
      exact Ev.iteN (by simp) (Ev.iteN h h1)
theorem perform_ev (au : Int) (L : List S34) (h0 : 1 ≤ au ∧ au ≤ 9999999) (hL : L.length < 9223372036854775807) :
    Ev (fun k => examboardlaw15_perform.f k au L) (((L.take 300).foldl stepV (newR au)).1, ((L.take 300).foldl stepV (newR au)).2.1, ((L.take 300).foldl stepV (newR au)).2.2.1, ((L.take 300).foldl stepV (newR au)).2.2.2.1, ((L.take 300).foldl stepV (newR au)).2.2.2.2, true) := by
  unfold examboardlaw15_perform.f
  refine Ev.bindS (new_is au) ?_
  have hn : newV au = (1, au, [], [], [], 0) := by rw [newV, if_pos h0]
  rw [hn]
  refine Ev.iteP rfl (Ev.iteP rfl ?_)
  refine Ev.up ?_
  simp only [examboardlaw15_perform.j0]
  exact Ev.iteN (by simp) (perform_l0 L hL _ 0 (newR au) (new_short au) rfl (Nat.zero_le _))

/-! ### what holds of every record that actions lead to -/
/-- An allowed action, told. -/
theorem allowed_told {r : Rec} {a : S34} (h : okV r a = 0) : 1 ≤ a.f0 ∧ a.f0 ≤ 9 ∧ 0 ≤ a.f3 ∧ a.f3 ≤ 1099511627776 ∧ r.2.2.2.2.length < 200 ∧ lateV r.2.2.2.2 a.f3 = false ∧ rolesV a.f0 r.1 ≠ 0 ∧ dutyV r.2.1 r.2.2.1 a.f0 a.f1 = false := by
  unfold okV allowedV at h
  by_cases h1 : a.f0 < 1 ∨ 9 < a.f0
  · rw [if_pos h1] at h; exact absurd h (by decide)
  rw [if_neg h1] at h
  by_cases h2 : a.f1 < 1 ∨ 9999999 < a.f1 ∨ a.f3 < 0 ∨ 1099511627776 < a.f3
  · rw [if_pos h2] at h; exact absurd h (by decide)
  rw [if_neg h2] at h
  by_cases h3 : 200 ≤ r.2.2.2.2.length
  · rw [if_pos h3] at h; exact absurd h (by decide)
  rw [if_neg h3] at h
  by_cases h4 : lateV r.2.2.2.2 a.f3 = true
  · rw [if_pos h4] at h; exact absurd h (by decide)
  rw [if_neg h4] at h
  by_cases h5 : rolesV a.f0 r.1 = 0
  · rw [if_pos h5] at h; exact absurd h (by decide)
  rw [if_neg h5] at h
  by_cases h6 : Go.bits .and .i64 (rolesV a.f0 r.1) a.f2 = 0
  · rw [if_pos h6] at h; exact absurd h (by decide)
  rw [if_neg h6] at h
  by_cases h7 : dutyV r.2.1 r.2.2.1 a.f0 a.f1 = true
  · rw [if_pos h7] at h; exact absurd h (by decide)
  exact ⟨by omega, by omega, by omega, by omega, by omega, by simpa using h4, h5, by simpa using h7⟩
/-- The records that actions lead to from a new one. -/
inductive Runs (au : Int) : Rec → Prop
  | new : Runs au (newR au)
  | act (r : Rec) (a : S34) : Runs au r → okV r a = 0 → Runs au (doneV r a)
theorem runs_fold {au : Int} : ∀ (l : List S34) (r : Rec), Runs au r → Runs au (l.foldl stepV r)
  | [], _, h => h
  | a :: l, r, h => by
    refine runs_fold l _ ?_
    unfold stepV; split
    · next h0 => exact .act r a h h0
    · exact h
theorem runs_short {au : Int} {r : Rec} (h : Runs au r) : Short r := by
  induction h with
  | new => exact new_short au
  | act r a _ h0 ih => exact done_short ih h0
/-- Who approved what. -/
def Told (au : Int) (r : Rec) : Prop :=
  r.2.1 = au ∧ (1 ≤ r.1 ∧ r.1 ≤ 7) ∧ au ∉ r.2.2.1 ∧ r.2.2.1.Nodup ∧ (r.1 = 1 → r.2.2.1 = [] ∧ r.2.2.2.1 = []) ∧ (r.1 = 2 → r.2.2.2.1 = []) ∧ (r.1 = 3 → 2 ≤ r.2.2.1.length ∧ r.2.2.2.1 = []) ∧
    ((r.1 = 4 ∨ r.1 = 5 ∨ r.1 = 6) → 2 ≤ r.2.2.1.length ∧ ∃ x, r.2.2.2.1 = [x] ∧ x ≠ au ∧ x ∉ r.2.2.1)
theorem roles_told {k s : Int} (h : rolesV k s ≠ 0) : (k = 1 ∧ s = 1) ∨ (k = 2 ∧ s = 2) ∨ (k = 3 ∧ (s = 2 ∨ s = 3)) ∨ (k = 4 ∧ s = 3) ∨ (k = 5 ∧ s = 4) ∨ (k = 6 ∧ s = 5) ∨ (k = 7 ∧ s = 6) ∨ (k = 8 ∧ 1 ≤ s ∧ s < 7) ∨ (k = 9 ∧ 4 ≤ s ∧ s < 7) := by
  unfold rolesV at h
  repeat' split at h
  all_goals omega
theorem runs_told {au : Int} {r : Rec} (h : Runs au r) : Told au r := by
  induction h with
  | new => exact ⟨rfl, ⟨by simp [newR], by simp [newR]⟩, by simp [newR], by simp [newR], fun _ => ⟨rfl, rfl⟩, fun _ => rfl, fun h => by simp [newR] at h, fun h => by simp [newR] at h⟩
  | act r a _ h0 ih =>
    obtain ⟨st, au', ap, fa, log⟩ := r
    obtain ⟨kd, us, ro, ti⟩ := a
    obtain ⟨_, _, _, _, _, _, hr, hd⟩ := allowed_told h0
    obtain ⟨i1, i2, i3, i4, i5, i6, i7, i8⟩ := ih
    simp only at i1 i2 i3 i4 i5 i6 i7 i8 hr hd
    subst i1
    rcases roles_told hr with ⟨rfl, rfl⟩ | ⟨rfl, rfl⟩ | ⟨rfl, hs⟩ | ⟨rfl, rfl⟩ | ⟨rfl, rfl⟩ | ⟨rfl, rfl⟩ | ⟨rfl, rfl⟩ | ⟨rfl, hs⟩ | ⟨rfl, hs⟩
    · simp [doneV, Told, i3, i4, (i5 rfl).2]
    · have hd' : us ≠ au' ∧ us ∉ ap := by simpa [dutyV] using hd
      have hn : (ap ++ [us]).Nodup := by
        rw [List.nodup_append]
        exact ⟨i4, by simp, fun x hx y hy => by simp at hy; subst hy; exact fun e => hd'.2 (e ▸ hx)⟩
      by_cases hl : 1 ≤ ap.length
      · simp [doneV, Told, i3, hn, hl, i6, Ne.symm hd'.1]
      · simp [doneV, Told, i3, hn, hl, i6, Ne.symm hd'.1]
    · simp [doneV, Told]
    · have hd' : us ≠ au' ∧ us ∉ ap := by simpa [dutyV] using hd
      simp [doneV, Told, i3, i4, (i7 rfl).1, (i7 rfl).2, hd']
    · simp [doneV, Told, i3, i4]; simpa using i8
    · simp [doneV, Told, i3, i4]; simpa using i8
    · simp [doneV, Told, i3, i4]; simpa using i8
    · simp [doneV, Told, i3, i4]
    · simp [doneV, Told]
/-- The times of a log are within bounds, and do not fall. -/
def Times (log : List S34) : Prop := (∀ i : Nat, i < log.length → 0 ≤ (rd_T34 log (i : Int)).f3 ∧ (rd_T34 log (i : Int)).f3 ≤ 1099511627776) ∧ ∀ i : Nat, i + 1 < log.length → (rd_T34 log (i : Int)).f3 ≤ (rd_T34 log ((i + 1 : Nat) : Int)).f3
theorem rdT_left {l : List S34} {a : S34} {i : Nat} (h : i < l.length) : rd_T34 (l ++ [a]) (i : Int) = rd_T34 l (i : Int) := by
  simp [rd_T34, List.getD_eq_getElem?_getD, List.getElem?_append_left h]
theorem rdT_last {l : List S34} {a : S34} : rd_T34 (l ++ [a]) (l.length : Int) = a := by
  simp [rd_T34, List.getD_eq_getElem?_getD]
theorem runs_times {au : Int} {r : Rec} (h : Runs au r) : Times r.2.2.2.2 := by
  induction h with
  | new => exact ⟨fun i hi => by simp [newR] at hi, fun i hi => by simp [newR] at hi⟩
  | act r a _ h0 ih =>
    obtain ⟨_, _, t0, t1, hl, hlate, _, _⟩ := allowed_told h0
    obtain ⟨i1, i2⟩ := ih
    rw [done_log]
    refine ⟨fun i hi => ?_, fun i hi => ?_⟩
    · simp only [List.length_append, List.length_singleton] at hi
      rcases Nat.lt_or_ge i r.2.2.2.2.length with h | h
      · rw [rdT_left h]; exact i1 i h
      · obtain rfl : i = r.2.2.2.2.length := by omega
        rw [rdT_last]; exact ⟨t0, t1⟩
    · simp only [List.length_append, List.length_singleton] at hi
      rcases Nat.lt_or_ge (i + 1) r.2.2.2.2.length with h | h
      · rw [rdT_left h, rdT_left (by omega)]; exact i2 i h
      · have e : i + 1 = r.2.2.2.2.length := by omega
        rw [rdT_left (by omega), e, rdT_last]
        rw [lateV, if_pos (by omega), decide_eq_false_iff_not] at hlate
        rw [show ((r.2.2.2.2.length : Int) - 1) = ((i : Nat) : Int) by omega] at hlate
        omega
end Go.Proofs.Ytokmnbdnligcaaa.Spec
