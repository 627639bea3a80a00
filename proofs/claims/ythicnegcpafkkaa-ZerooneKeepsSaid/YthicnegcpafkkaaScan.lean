/- All bit lists from the greatest number to the least are the bit lists in the order of the search; what the law's assignment answers. -/
import Derived.Test.YthicnegcpafkkaaAllx43
import Derived.Test.YthicnegcpafkkaaAllx29
import Derived.Test.YthicnegcpafkkaaSolveWalk
set_option linter.unusedVariables false
namespace Go.Proofs.Ythicnegcpafkkaa.Spec
open Go.RowKit Go.Proofs.YthicnegcpafkkaaW.PrintWords Go.Proofs.YthicnegcpafkkaaW.PrintMore Go.Proofs.Ythicnegcpafkkaa.All
theorem Ev.up {α : Type} {g : Nat → Option α} {r : α} (h : Ev (fun k => g (k + 1)) r) : Ev g r := by
  obtain ⟨K, h⟩ := h
  exact ⟨K + 1, fun k hk => by obtain ⟨j, rfl⟩ : ∃ j, k = j + 1 := ⟨k - 1, by omega⟩; exact h j (by omega)⟩
def bitsOf : Nat → Nat → List Int
  | 0, _ => []
  | m + 1, a => bitsOf m (a / 2) ++ [((a % 2 : Nat) : Int)]
theorem bitsOf_length : ∀ (m a : Nat), (bitsOf m a).length = m
  | 0, _ => rfl
  | m + 1, a => by simp [bitsOf, bitsOf_length m (a / 2)]
theorem bitsOf_bits : ∀ (m a : Nat), (bitsOf m a).all isBit = true
  | 0, _ => rfl
  | m + 1, a => by
    rw [bitsOf, List.all_append, bitsOf_bits m (a / 2), Bool.true_and, List.all_cons, List.all_nil, Bool.and_true, isBit_iff]
    have := Nat.mod_two_eq_zero_or_one a
    omega
theorem bitsOf_one (m a : Nat) : bitsOf (m + 1) (2 * a + 1) = bitsOf m a ++ [1] := by
  rw [bitsOf, show (2 * a + 1) / 2 = a by omega, show (2 * a + 1) % 2 = 1 by omega]; rfl
theorem bitsOf_zero (m a : Nat) : bitsOf (m + 1) (2 * a) = bitsOf m a ++ [0] := by
  rw [bitsOf, show (2 * a) / 2 = a by omega, show (2 * a) % 2 = 0 by omega]; rfl
def stepB (F : List Int → Bool) (val : List Int → Int) (b : Best) (y : List Int) : Best := if (F y && better b (val y)) = true then some (y, val y) else b
def scan (F : List Int → Bool) (val : List Int → Int) (f : Nat → List Int) (lo : Nat) : Nat → Best → Best
  | 0, b => b
  | c + 1, b => scan F val f lo c (stepB F val b (f (lo + c)))
theorem scan_add {F : List Int → Bool} {val : List Int → Int} {f : Nat → List Int} (lo c1 : Nat) : ∀ (c2 : Nat) (b : Best), scan F val f lo (c1 + c2) b = scan F val f lo c1 (scan F val f (lo + c1) c2 b)
  | 0, b => rfl
  | c2 + 1, b => by
    show scan F val f lo (c1 + c2) _ = scan F val f lo c1 (scan F val f (lo + c1) c2 _)
    rw [scan_add lo c1 c2, Nat.add_assoc]
    rfl
theorem scan_dfs {F : List Int → Bool} {val : List Int → Int} : ∀ (n m a : Nat) (b : Best), scan F val (bitsOf (m + n)) (a * 2 ^ n) (2 ^ n) b = dfs F val n (bitsOf m a) b
  | 0, m, a, b => by simp [scan, dfs, stepB]
  | n + 1, m, a, b => by
    have e1 : 2 ^ (n + 1) = 2 ^ n + 2 ^ n := by rw [Nat.pow_succ]; omega
    have e2 : a * 2 ^ (n + 1) = (2 * a) * 2 ^ n := by rw [Nat.pow_succ, Nat.mul_comm 2 a, Nat.mul_assoc, Nat.mul_comm 2 (2 ^ n)]
    have e3 : (2 * a) * 2 ^ n + 2 ^ n = (2 * a + 1) * 2 ^ n := by rw [Nat.add_mul, Nat.one_mul]
    have e4 : m + (n + 1) = (m + 1) + n := by omega
    rw [e2, e1, scan_add, e3, e4, scan_dfs n (m + 1) (2 * a + 1) b, scan_dfs n (m + 1) (2 * a), bitsOf_one, bitsOf_zero]
    rfl
theorem scan_all {F : List Int → Bool} {val : List Int → Int} (n : Nat) : scan F val (bitsOf n) 0 (2 ^ n) none = dfs F val n [] none := by
  have h := scan_dfs (F := F) (val := val) n 0 0 none
  rw [Nat.zero_add, Nat.zero_mul] at h
  exact h
/-! ### assignment -/
theorem bit_table : ((List.range 256).all fun k => (List.range 8).all fun i => decide (0 ≤ IntKind.u64.wrap ((i : Nat) : Int)) && decide (Go.bits .and .i64 (shr .i64 ((k : Nat) : Int) (IntKind.u64.wrap ((i : Nat) : Int))) 1 = ((k / 2 ^ i % 2 : Nat) : Int))) = true := by kernel_rfl
theorem bit_at {k i : Nat} (hk : k < 256) (hi : i < 8) : 0 ≤ IntKind.u64.wrap ((i : Nat) : Int) ∧ Go.bits .and .i64 (shr .i64 ((k : Nat) : Int) (IntKind.u64.wrap ((i : Nat) : Int))) 1 = ((k / 2 ^ i % 2 : Nat) : Int) := by
  have h := List.all_eq_true.1 (List.all_eq_true.1 bit_table k (List.mem_range.2 hk)) i (List.mem_range.2 hi)
  simpa using h
theorem shl_table : ((List.range 9).all fun n => decide (0 ≤ IntKind.u64.wrap ((n : Nat) : Int)) && decide (wrap64 (shl .i64 1 (IntKind.u64.wrap ((n : Nat) : Int)) - 1) = ((2 ^ n : Nat) : Int) - 1)) = true := by kernel_rfl
theorem shl_at {n : Nat} (hn : n ≤ 8) : 0 ≤ IntKind.u64.wrap ((n : Nat) : Int) ∧ wrap64 (shl .i64 1 (IntKind.u64.wrap ((n : Nat) : Int)) - 1) = ((2 ^ n : Nat) : Int) - 1 := by
  have h := List.all_eq_true.1 shl_table n (List.mem_range.2 (by omega))
  simpa using h
theorem assign_l0 (k n : Nat) (hk : k < 256) (hn : n ≤ 8) : ∀ (r : Nat), r ≤ n → Ev (fun K => examboardlaw34_assignment.l0 K (k : Int) (bitsOf (n - r) (k / 2 ^ r)) ((r : Int) - 1)) (bitsOf n k)
  | 0, _ => by
    refine Ev.step (f := fun _ => some (bitsOf n k)) (fun K => ?_) (Ev.now _)
    simp only [examboardlaw34_assignment.l0]
    rw [if_neg (by omega)]; simp
  | r + 1, hr => by
    obtain ⟨h1, h2⟩ := bit_at (k := k) (i := r) hk (by omega)
    have e0 : (((r + 1 : Nat) : Int) - 1) = ((r : Nat) : Int) := by omega
    refine Ev.step (f := fun K => examboardlaw34_assignment.l0 K (k : Int) (bitsOf (n - r) (k / 2 ^ r)) ((r : Int) - 1)) (fun K => ?_) (assign_l0 k n hk hn r (by omega))
    rw [e0]
    simp only [examboardlaw34_assignment.l0]
    have e1 : bitsOf (n - r) (k / 2 ^ r) = bitsOf (n - (r + 1)) (k / 2 ^ (r + 1)) ++ [((k / 2 ^ r % 2 : Nat) : Int)] := by
      rw [show n - r = (n - (r + 1)) + 1 by omega, bitsOf, Nat.div_div_eq_div_mul, Nat.pow_succ]
    rw [if_pos (by omega), if_pos h1, if_pos (by rw [bitsOf_length]; omega), h2, ← e1, wrap_in (by omega) (by omega)]
theorem assign_ev (k n : Nat) (hk : k < 2 ^ n) (hn : n ≤ 8) : Ev (fun K => examboardlaw34_assignment.f K (k : Int) (n : Int)) (bitsOf n k) := by
  have hk2 : k < 256 := Nat.lt_of_lt_of_le hk (Nat.pow_le_pow_right (n := 2) (by decide) hn)
  have h := assign_l0 k n hk2 hn n (Nat.le_refl _)
  rw [Nat.sub_self, Nat.div_eq_of_lt hk] at h
  unfold examboardlaw34_assignment.f
  rw [wrap_in (by omega) (by omega)]
  exact h
/-! ### ints -/
theorem ints_l0 (x : List Int) (hx : x.length < 9223372036854775807) : ∀ (d i : Nat), x.length - i = d → i ≤ x.length → Ev (fun K => examboardlaw34_ints.l0 K x x (i : Int)) true
  | 0, i, hd, hi => by
    refine Ev.step (f := fun _ => some true) (fun K => ?_) (Ev.now _)
    simp only [examboardlaw34_ints.l0]; rw [if_neg (by omega)]
  | d + 1, i, hd, hi => by
    refine Ev.step (f := fun K => examboardlaw34_ints.l0 K x x ((i + 1 : Nat) : Int)) (fun K => ?_) (ints_l0 x hx d (i + 1) (by omega) (by omega))
    simp only [examboardlaw34_ints.l0]; rw [if_pos (by omega), if_pos (by omega), if_pos (by omega), if_pos trivial, wrap_nat (by omega)]
theorem ints_self (x : List Int) (hx : x.length < 9223372036854775807) : Ev (fun K => examboardlaw34_ints.f K x x) true := by
  unfold examboardlaw34_ints.f
  exact Ev.iteP rfl (ints_l0 x hx x.length 0 rfl (Nat.zero_le _))
end Go.Proofs.Ythicnegcpafkkaa.Spec
