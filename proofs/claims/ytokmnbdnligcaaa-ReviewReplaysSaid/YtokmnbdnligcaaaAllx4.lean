-- Written by myprint.py for this claim: functions of the program as Lean functions, with the proofs that the calls come to them.
import Derived.Test.YtokmnbdnligcaaaAllx0
namespace Go.Proofs.Ytokmnbdnligcaaa.All
open Go.RowKit Go.Proofs.YtokmnbdnligcaaaW.PrintWords Go.Proofs.YtokmnbdnligcaaaW.PrintLast Go.Proofs.YtokmnbdnligcaaaW.PrintMore
attribute [local go_sem] max2_int min2_int max_two min_two max_three min_three max_four min_four   -- for this text's walks alone
set_option linter.unusedVariables false
set_option linter.unusedSimpArgs false

/-! ### review_roles: function 25 -/
/-- two pairs are equal -/
def eq2 (a b c d : Int) : Bool := a == c && b == d
theorem run_eqint (d : Nat) (w : World) (a c : Int) : (Op.equalIn (d + 1) 3 (.int .i64 a) (.int .i64 c)).run Try.prog w = .ok (a == c) w := by
  simp [Op.equalIn, run_underlying Try.underlying3]
theorem cells3_ : Try.prog.cellsOf 3 = 1 := by kernel_rfl
theorem info3_ : (Try.prog.info? 3).map (fun i => (i.zero, i.size, i.bytes)) = some (some (.int .i64 0), 1, 8) := by kernel_rfl
theorem run_part3 (w : World) (a b : Int) : (part 3 #[.int .i64 a, .int .i64 b] 0).run Try.prog w = .ok (.int .i64 a) w ∧ (part 3 #[.int .i64 a, .int .i64 b] 1).run Try.prog w = .ok (.int .i64 b) w := by
  obtain ⟨i0, hi, hz0, hz1, hz2⟩ := info_parts info3_
  constructor <;> simp [part, isAgg, run_underlying Try.underlying3]

theorem run_eq2 (w : World) (a b c d : Int) : (binOp .eql 50 (.agg #[.int .i64 a, .int .i64 b]) (.agg #[.int .i64 c, .int .i64 d])).run Try.prog w = .ok (.bool (eq2 a b c d)) w := by
  obtain ⟨i0, hi, hz0, hz1, hz2⟩ := info_parts info3_
  have h1 : (Op.equal 50 (.agg #[.int .i64 a, .int .i64 b]) (.agg #[.int .i64 c, .int .i64 d])).run Try.prog w = .ok (eq2 a b c d) w := by
    unfold Op.equal
    rw [show Op.maxDepth = 9999 + 1 from rfl, run_equalIn_array (P := Try.prog) w 9999 _ _ Try.underlying50 hi]
    simp only [cells3_, show List.range 2 = [0, 1] from rfl, Op.eqItems, Sem.run_bind, Nat.zero_mul, Nat.one_mul, (run_part3 w _ _).1, (run_part3 w _ _).2, Result.andThen_ok, run_eqint 9998]
    unfold eq2
    have q : ∀ w x y, (part 3 #[.int .i64 x, .int .i64 y] 1).run Try.prog w = .ok (.int .i64 y) w := fun w x y => (run_part3 w x y).2
    have q2 : ∀ w x y, (Op.equalIn 9999 3 (.int .i64 x) (.int .i64 y)).run Try.prog w = .ok (x == y) w := fun w x y => run_eqint 9998 w x y
    cases h : a == c <;> simp [q, q2]
    by_cases h2 : b = d <;> simp [h2]
  simp only [binOp, Sem.run_bind, h1, Result.andThen_ok, Sem.run_pure]

/-- The roles of which an action requires one. -/
def rolesV (k s : Int) : Int :=
  if k = 8 ∧ 1 ≤ s ∧ s < 7 then 16 else if k = 9 ∧ 4 ≤ s ∧ s < 7 then 1 else if k = 1 ∧ s = 1 then 1 else if k = 2 ∧ s = 2 then 2 else if k = 3 ∧ s = 2 then 2
  else if k = 3 ∧ s = 3 then 4 else if k = 4 ∧ s = 3 then 4 else if k = 5 ∧ s = 4 then 8 else if k = 6 ∧ s = 5 then 24 else if k = 7 ∧ s = 6 then 16 else 0
def review_roles.f (a0 a1 : Int) : Option Int := some (rolesV a0 a1)
set_option maxHeartbeats 8000000 in
theorem review_roles.calls (a0 a1 r : Int) (w : World) (h : review_roles.f a0 a1 = some r) : Calls Try.prog 25 #[.int .i64 a0, .int .i64 a1] w fun e w' => e = .returned (.int .i64 r) ∧ Drawn0 w w' := by
  have h1 := Option.some.inj h
  have HR := Aside0.mk h1
  clear h h1
  have hq := run_eq2
  go_enter Try.func25, Try.ntmps25
  go_wp2
  all_goals
    go_ret
    refine ⟨?_, by repeat (first | exact Drawn0.refl _ | apply Drawn0.step)⟩
    rw [← HR.out]
    congr 2
    clear hq
    simp only [eq2, Bool.and_eq_true, Bool.and_eq_false_iff, beq_iff_eq, beq_eq_false_iff_ne, ne_eq] at *
    unfold rolesV
    repeat' split
    all_goals (first | rfl | (exfalso; omega) | omega)

end Go.Proofs.Ytokmnbdnligcaaa.All
