/- Plain words on reviews: which actions are allowed. Nothing of the program stands here beyond its printed functions. -/
import Derived.Test.YtokmnbdnligcaaaAllx9
import Derived.Test.YtokmnbdnligcaaaAllx15
import Derived.Test.YtokmnbdnligcaaaAllx2
set_option linter.unusedVariables false
namespace Go.Proofs.Ytokmnbdnligcaaa.Spec
open Go.RowKit Go.Proofs.YtokmnbdnligcaaaW.PrintWords Go.Proofs.Ytokmnbdnligcaaa.All

theorem wrap_in {n : Int} (h0 : -9223372036854775808 ≤ n) (h1 : n ≤ 9223372036854775807) : wrap64 n = n := by unfold wrap64; omega
theorem wrap_nat {i : Nat} (h : i < 9223372036854775807) : wrap64 ((i : Int) + 1) = ((i + 1 : Nat) : Int) := by rw [wrap_in (by omega) (by omega)]; omega
theorem rd_nat (l : List Int) (i : Nat) : rd l (i : Int) = l.getD i 0 := by simp [rd]
theorem drop_rd {l : List Int} {i : Nat} (h : i < l.length) : l.drop i = rd l (i : Int) :: l.drop (i + 1) := by
  rw [rd_nat, List.getD_eq_getElem?_getD, List.getElem?_eq_getElem h]; exact List.drop_eq_getElem_cons h
theorem drop_rdT {l : List S34} {i : Nat} (h : i < l.length) : l.drop i = rd_T34 l (i : Int) :: l.drop (i + 1) := by
  rw [rd_T34, Int.toNat_natCast, List.getD_eq_getElem?_getD, List.getElem?_eq_getElem h]; exact List.drop_eq_getElem_cons h
theorem Ev.iteP {α : Type} {c : Prop} [Decidable c] {g f : Nat → Option α} {r : α} (h : c) (k : Ev g r) : Ev (fun n => if c then g n else f n) r := by
  simpa [h] using k
theorem Ev.iteN {α : Type} {c : Prop} [Decidable c] {g f : Nat → Option α} {r : α} (h : ¬ c) (k : Ev f r) : Ev (fun n => if c then g n else f n) r := by
  simpa [h] using k
theorem Ev.iteC {α : Type} {c : Prop} [Decidable c] {g f : Nat → Option α} {r : α} (k : c → Ev g r) (k' : ¬ c → Ev f r) : Ev (fun n => if c then g n else f n) r := by
  by_cases h : c
  · exact Ev.iteP h (k h)
  · exact Ev.iteN h (k' h)
theorem Ev.bindS {α β : Type} {o : Option α} {a : α} {f : Nat → α → Option β} {r : β} (h : o = some a) (k : Ev (fun n => f n a) r) : Ev (fun n => o.bind (f n)) r := by
  subst h; exact k
theorem Ev.up {α : Type} {g : Nat → Option α} {r : α} (h : Ev (fun k => g (k + 1)) r) : Ev g r := Ev.step (fun _ => rfl) h
theorem Ev.is {α : Type} {r r' : α} (h : r = r') : Ev (fun _ => some r) r' := h ▸ Ev.now r

/-! ### whether a number is among numbers -/
theorem index_l0 (l : List Int) (x : Int) (hl : l.length < 9223372036854775807) : ∀ (d i : Nat), l.length - i = d → i ≤ l.length →
    ∃ v, Ev (fun k => slices_Index_int_int.l0 k l x (l.length : Int) (i : Int)) v ∧ decide (v ≥ 0) = decide (x ∈ l.drop i) := by
  intro d
  induction d with
  | zero =>
    intro i hd hi
    rw [List.drop_eq_nil_of_le (by omega)]
    refine ⟨-1, Ev.up ?_, by simp⟩
    simp only [slices_Index_int_int.l0]
    exact Ev.iteN (by omega) (Ev.now _)
  | succ d ih =>
    intro i hd hi
    have hlt : i < l.length := by omega
    rw [drop_rd hlt]
    by_cases h : x = rd l (i : Int)
    · refine ⟨(i : Int), Ev.up ?_, by simp [h]⟩
      simp only [slices_Index_int_int.l0]
      exact Ev.iteP (by omega) (Ev.iteP (by omega) (Ev.iteP (by omega) (Ev.iteP h (Ev.now _))))
    · obtain ⟨v, h1, h2⟩ := ih (i + 1) (by omega) (by omega)
      refine ⟨v, Ev.up ?_, by rw [h2]; simp [h]⟩
      simp only [slices_Index_int_int.l0]
      rw [wrap_nat (by omega)]
      exact Ev.iteP (by omega) (Ev.iteP (by omega) (Ev.iteP (by omega) (Ev.iteN h h1)))
theorem contains_ev (l : List Int) (x : Int) (hl : l.length < 9223372036854775807) : Ev (fun k => slices_Contains_int_int.f k l x) (decide (x ∈ l)) := by
  obtain ⟨v, h1, h2⟩ := index_l0 l x hl _ 0 rfl (Nat.zero_le _)
  unfold slices_Contains_int_int.f slices_Index_int_int.f
  refine Ev.bind h1 (Ev.is ?_)
  simpa using h2
theorem ramong_ev (l : List Int) (x : Int) (hl : l.length < 9223372036854775807) : Ev (fun k => examboardref15_among.f k l x) (decide (x ∈ l)) := by
  have h : ∀ (d i : Nat), l.length - i = d → i ≤ l.length → Ev (fun k => examboardref15_among.l0 k l x (i : Int)) (decide (x ∈ l.drop i)) := by
    intro d
    induction d with
    | zero =>
      intro i hd hi
      rw [List.drop_eq_nil_of_le (by omega)]
      refine Ev.up ?_
      simp only [examboardref15_among.l0]
      exact Ev.iteN (by omega) (Ev.is (by simp))
    | succ d ih =>
      intro i hd hi
      have hlt : i < l.length := by omega
      rw [drop_rd hlt]
      refine Ev.up ?_
      simp only [examboardref15_among.l0]
      rw [wrap_nat (by omega)]
      refine Ev.iteP (by omega) (Ev.iteP (by omega) (Ev.iteC (fun h => Ev.is (by simp [h])) (fun h => ?_)))
      have h1 := ih (i + 1) (by omega) (by omega)
      rwa [show decide (x ∈ rd l (i : Int) :: l.drop (i + 1)) = decide (x ∈ l.drop (i + 1)) by simp [Ne.symm h]]
  exact h _ 0 rfl (Nat.zero_le _)
theorem ints_ev (l : List Int) (hl : l.length < 9223372036854775807) : Ev (fun k => examboardlaw15_ints.f k l l) true := by
  have h : ∀ (d i : Nat), l.length - i = d → i ≤ l.length → Ev (fun k => examboardlaw15_ints.l0 k l l (i : Int)) true := by
    intro d
    induction d with
    | zero =>
      intro i hd hi
      refine Ev.up ?_
      simp only [examboardlaw15_ints.l0]
      exact Ev.iteN (by omega) (Ev.now _)
    | succ d ih =>
      intro i hd hi
      refine Ev.up ?_
      simp only [examboardlaw15_ints.l0]
      rw [wrap_nat (by omega)]
      exact Ev.iteP (by omega) (Ev.iteP (by omega) (Ev.iteP (by omega) (Ev.iteP trivial (ih (i + 1) (by omega) (by omega)))))
  unfold examboardlaw15_ints.f
  exact Ev.iteP rfl (h _ 0 rfl (Nat.zero_le _))

/-! ### which action is allowed -/
def dutyV (au : Int) (ap : List Int) (kd us : Int) : Bool :=
  if kd = 1 ∨ kd = 9 then us != au else if kd = 2 ∨ kd = 4 then us == au || decide (us ∈ ap) else if kd = 3 then us == au else false
def lateV (log : List S34) (ti : Int) : Bool := if 0 < log.length then decide (ti < (rd_T34 log ((log.length : Int) - 1)).f3) else false
def allowedV (st au : Int) (ap : List Int) (log : List S34) (kd us ro ti : Int) : Int :=
  if kd < 1 ∨ 9 < kd then 1 else if us < 1 ∨ 9999999 < us ∨ ti < 0 ∨ 1099511627776 < ti then 3 else if 200 ≤ log.length then 5
  else if lateV log ti = true then 15 else if rolesV kd st = 0 then 8 else if Go.bits .and .i64 (rolesV kd st) ro = 0 then 9 else if dutyV au ap kd us = true then 10 else 0
theorem duty_ev (st au : Int) (ap fa : List Int) (log : List S34) (kd us ro ti : Int) (hl : ap.length < 9223372036854775807) :
    Ev (fun k => review_duty.f k st au ap fa log kd us ro ti) (dutyV au ap kd us) := by
  have h1 : Ev (fun k => review_duty.j1 k kd (decide (kd = 2 ∨ kd = 4)) st au ap fa log kd us ro ti) (if kd = 2 ∨ kd = 4 then us == au || decide (us ∈ ap) else if kd = 3 then us == au else false) := by
    refine Ev.up ?_
    simp only [review_duty.j1, decide_eq_true_eq]
    refine Ev.iteC (fun h => ?_) (fun h => ?_)
    · rw [if_pos h]
      refine Ev.iteC (fun h' => Ev.is (by simp [h'])) (fun h' => ?_)
      exact Ev.bind (contains_ev ap us hl) (Ev.is (by simp [h']))
    · rw [if_neg h]
      exact Ev.iteC (fun h' => Ev.is (by simp [h'])) (fun h' => Ev.is (by simp [h']))
  have h0 : Ev (fun k => review_duty.j0 k kd (decide (kd = 1 ∨ kd = 9)) st au ap fa log kd us ro ti) (dutyV au ap kd us) := by
    refine Ev.up ?_
    simp only [review_duty.j0, decide_eq_true_eq]
    unfold dutyV
    refine Ev.iteC (fun h => Ev.is (by rw [if_pos h])) (fun h => ?_)
    rw [if_neg h]
    refine Ev.iteC (fun h' => ?_) (fun h' => ?_)
    · rw [show (kd == 2) = decide (kd = 2 ∨ kd = 4) by simp [h']]; exact h1
    · rw [show (kd == 4) = decide (kd = 2 ∨ kd = 4) by by_cases h4 : kd = 4 <;> simp [h4, h']]; exact h1
  unfold review_duty.f
  refine Ev.iteC (fun h' => ?_) (fun h' => ?_)
  · rw [show (kd == 1) = decide (kd = 1 ∨ kd = 9) by simp [h']]; exact h0
  · rw [show (kd == 9) = decide (kd = 1 ∨ kd = 9) by by_cases h4 : kd = 9 <;> simp [h4, h']]; exact h0
theorem rduty_ev (st au : Int) (ap fa : List Int) (log : List S34) (kd us ro ti : Int) (hl : ap.length < 9223372036854775807) :
    Ev (fun k => examboardref15_duty.f k st au ap fa log kd us ro ti) (dutyV au ap kd us) := by
  have h1 : Ev (fun k => examboardref15_duty.j1 k kd (decide (kd = 2 ∨ kd = 4)) st au ap fa log kd us ro ti) (if kd = 2 ∨ kd = 4 then us == au || decide (us ∈ ap) else if kd = 3 then us == au else false) := by
    refine Ev.up ?_
    simp only [examboardref15_duty.j1, decide_eq_true_eq]
    refine Ev.iteC (fun h => ?_) (fun h => ?_)
    · rw [if_pos h]
      refine Ev.iteC (fun h' => Ev.is (by simp [h'])) (fun h' => ?_)
      exact Ev.bind (ramong_ev ap us hl) (Ev.is (by simp [h']))
    · rw [if_neg h]
      exact Ev.iteC (fun h' => Ev.is (by simp [h'])) (fun h' => Ev.is (by simp [h']))
  have h0 : Ev (fun k => examboardref15_duty.j0 k kd (decide (kd = 1 ∨ kd = 9)) st au ap fa log kd us ro ti) (dutyV au ap kd us) := by
    refine Ev.up ?_
    simp only [examboardref15_duty.j0, decide_eq_true_eq]
    unfold dutyV
    refine Ev.iteC (fun h => Ev.is (by rw [if_pos h])) (fun h => ?_)
    rw [if_neg h]
    refine Ev.iteC (fun h' => ?_) (fun h' => ?_)
    · rw [show (kd == 2) = decide (kd = 2 ∨ kd = 4) by simp [h']]; exact h1
    · rw [show (kd == 4) = decide (kd = 2 ∨ kd = 4) by by_cases h4 : kd = 4 <;> simp [h4, h']]; exact h1
  unfold examboardref15_duty.f
  refine Ev.iteC (fun h' => ?_) (fun h' => ?_)
  · rw [show (kd == 1) = decide (kd = 1 ∨ kd = 9) by simp [h']]; exact h0
  · rw [show (kd == 9) = decide (kd = 1 ∨ kd = 9) by by_cases h4 : kd = 9 <;> simp [h4, h']]; exact h0
end Go.Proofs.Ytokmnbdnligcaaa.Spec
