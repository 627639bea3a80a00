/- What the program's Value and Feasible and the reference's answer: the sum of the products, and whether an assignment satisfies the fixed variables and all rows. -/
import Derived.Test.YthicnegcpafkkaaAllx17
import Derived.Test.YthicnegcpafkkaaAllx17
import Derived.Test.YthicnegcpafkkaaAllx17
import Derived.Test.YthicnegcpafkkaaAllx19
import Derived.Test.YthicnegcpafkkaaAllx17
import Derived.Test.YthicnegcpafkkaaAllx17
import Derived.Test.YthicnegcpafkkaaAllx17
import Derived.Test.YthicnegcpafkkaaAllx19
import Derived.Test.YthicnegcpafkkaaSpan
set_option linter.unusedVariables false
namespace Go.Proofs.Ythicnegcpafkkaa.Spec
open Go.RowKit Go.Proofs.YthicnegcpafkkaaW.PrintWords Go.Proofs.YthicnegcpafkkaaW.PrintMore Go.Proofs.Ythicnegcpafkkaa.All Go.Proofs.Ythicnegcpafkkaa.Opener

def isBit (x : Int) : Bool := !(noBit x)
theorem isBit_iff {x : Int} : isBit x = true ↔ x = 0 ∨ x = 1 := by
  unfold isBit noBit
  cases h0 : x == 0 <;> cases h1 : x == 1 <;> simp_all
def bitsS (x : List Int) (n : Nat) : Bool := decide (x.length = n) && x.all isBit
def dotS : List Int → List Int → Int
  | a :: al, b :: bl => a * b + dotS al bl
  | _, _ => 0
def fixS : List Int → List Int → Bool
  | f :: fs, x :: xs => (f == -1 || f == x) && fixS fs xs
  | _, _ => true
def rowS (x : List Int) (r : S45) : Bool := decide (r.f1 ≤ dotS r.f0 x) && decide (dotS r.f0 x ≤ r.f2)
def feasS (v : List Int) (rs : List S45) (fx x : List Int) : Bool := decide (validS v rs fx = 0) && (bitsS x v.length && (fixS fx x && rs.all (rowS x)))
def valueS (v : List Int) (rs : List S45) (fx x : List Int) : Int × Int := if validS v rs fx = 0 then (if bitsS x v.length = true then (dotS v x, 0) else (0, 1)) else (0, validS v rs fx)
theorem mul_bit {c b : Int} (hc : okCoef c = true) (hb : isBit b = true) : -1000000 ≤ c * b ∧ c * b ≤ 1000000 := by
  have h := okCoef_le hc
  rcases isBit_iff.1 hb with rfl | rfl
  · simp
  · simpa using h
theorem product_l0 (a x : List Int) (ha : a.all okCoef = true) (hx : x.all isBit = true) (hn : x.length ≤ 24) (hl : a.length = x.length) :
    ∀ (d i : Nat) (s : Int), x.length - i = d → i ≤ x.length → (-1000000 * (i : Int) ≤ s ∧ s ≤ 1000000 * (i : Int)) →
      Ev (fun k => zeroone_product.l0 k a s x (x.length : Int) (i : Int)) (s + dotS (a.drop i) (x.drop i)) := by
  intro d
  induction d with
  | zero =>
    intro i s hd hi hs
    rw [List.drop_eq_nil_of_le (by omega), List.drop_eq_nil_of_le (by omega)]
    refine Ev.step (f := fun _ => some s) (fun k => ?_) (by simpa [dotS] using Ev.now s)
    simp only [zeroone_product.l0]; rw [if_neg (by omega)]
  | succ d ih =>
    intro i s hd hi hs
    have hlt : i < x.length := by omega
    have hla : i < a.length := by omega
    have hb := mul_bit (all_rd ha hla) (all_rd hx hlt)
    rw [drop_rd hlt, drop_rd hla]
    refine Ev.step (f := fun k => zeroone_product.l0 k a (s + rd a (i : Int) * rd x (i : Int)) x (x.length : Int) ((i + 1 : Nat) : Int)) (fun k => ?_) ?_
    · simp only [zeroone_product.l0]; rw [if_pos (by omega), if_pos (by omega), if_pos (by omega), if_pos (by omega), wrap_in (n := rd a (i : Int) * rd x (i : Int)) (by omega) (by omega), wrap_in (by omega) (by omega), wrap_nat (by omega)]
    · simpa [dotS, Int.add_assoc] using ih (i + 1) (s + rd a (i : Int) * rd x (i : Int)) (by omega) (by omega) (by omega)
theorem product_ev (a x : List Int) (ha : a.all okCoef = true) (hx : x.all isBit = true) (hn : x.length ≤ 24) (hl : a.length = x.length) : Ev (fun k => zeroone_product.f k a x) (dotS a x) := by
  have h := product_l0 a x ha hx hn hl _ 0 0 rfl (Nat.zero_le _) (by omega)
  have h' : Ev (fun k => zeroone_product.l0 k a 0 x (x.length : Int) 0) (dotS a x) := by simpa using h
  exact h'
theorem dot_l0 (a x : List Int) (ha : a.all okCoef = true) (hx : x.all isBit = true) (hn : x.length ≤ 24) (hl : a.length = x.length) :
    ∀ (d i : Nat) (s : Int), x.length - i = d → i ≤ x.length → (-1000000 * (i : Int) ≤ s ∧ s ≤ 1000000 * (i : Int)) →
      Ev (fun k => examboardref34_dot.l0 k a x s (i : Int)) (s + dotS (a.drop i) (x.drop i)) := by
  intro d
  induction d with
  | zero =>
    intro i s hd hi hs
    rw [List.drop_eq_nil_of_le (by omega), List.drop_eq_nil_of_le (by omega)]
    refine Ev.step (f := fun _ => some s) (fun k => ?_) (by simpa [dotS] using Ev.now s)
    simp only [examboardref34_dot.l0]; rw [if_neg (by omega)]
  | succ d ih =>
    intro i s hd hi hs
    have hlt : i < x.length := by omega
    have hla : i < a.length := by omega
    have hb := mul_bit (all_rd ha hla) (all_rd hx hlt)
    rw [drop_rd hlt, drop_rd hla]
    refine Ev.step (f := fun k => examboardref34_dot.l0 k a x (s + rd a (i : Int) * rd x (i : Int)) ((i + 1 : Nat) : Int)) (fun k => ?_) ?_
    · simp only [examboardref34_dot.l0]; rw [if_pos (by omega), if_pos (by omega), if_pos (by omega), wrap_in (n := rd a (i : Int) * rd x (i : Int)) (by omega) (by omega), wrap_in (by omega) (by omega), wrap_nat (by omega)]
    · simpa [dotS, Int.add_assoc] using ih (i + 1) (s + rd a (i : Int) * rd x (i : Int)) (by omega) (by omega) (by omega)
theorem dot_ev (a x : List Int) (ha : a.all okCoef = true) (hx : x.all isBit = true) (hn : x.length ≤ 24) (hl : a.length = x.length) : Ev (fun k => examboardref34_dot.f k a x) (dotS a x) := by
  have h := dot_l0 a x ha hx hn hl _ 0 0 rfl (Nat.zero_le _) (by omega)
  have h' : Ev (fun k => examboardref34_dot.l0 k a x 0 0) (dotS a x) := by simpa using h
  exact h'
theorem bits_some (x : List Int) (n : Nat) (hx : x.length < 9223372036854775807) : zeroone_bits.f x (n : Int) = some (bitsS x n) := by
  unfold zeroone_bits.f bitsS
  rw [if_pos hx]
  congr 1
  congr 1
  · rw [Bool.eq_iff_iff]; simp only [decide_eq_true_eq]; omega
  · unfold isBit; induction x with
    | nil => rfl
    | cons a l ih => simp only [List.any_cons, List.all_cons, Bool.not_or]; rw [ih (by simp at hx; omega)]
theorem rbits_l0 (x : List Int) (hn : x.length < 9223372036854775807) : ∀ (d i : Nat), x.length - i = d → i ≤ x.length → Ev (fun k => examboardref34_bits.l0 k x (x.length : Int) (i : Int)) ((x.drop i).all isBit) := by
  intro d
  induction d with
  | zero =>
    intro i hd hi
    rw [List.drop_eq_nil_of_le (by omega)]
    refine Ev.step (f := fun _ => some true) (fun k => ?_) (by simpa using Ev.now true)
    simp only [examboardref34_bits.l0]; rw [if_neg (by omega)]
  | succ d ih =>
    intro i hd hi
    have hlt : i < x.length := by omega
    rw [drop_rd hlt]
    by_cases h0 : rd x (i : Int) = 0
    · refine Ev.step (f := fun k => examboardref34_bits.l0 k x (x.length : Int) ((i + 1 : Nat) : Int)) (fun k => ?_) ?_
      · simp only [examboardref34_bits.l0]; rw [if_pos (by omega), if_pos (by omega), if_pos (by omega), if_pos h0, wrap_nat (by omega)]
      · have : isBit (rd x (i : Int)) = true := isBit_iff.2 (.inl h0)
        simpa [List.all_cons, this] using ih (i + 1) (by omega) (by omega)
    by_cases h1 : rd x (i : Int) = 1
    · refine Ev.step (f := fun k => examboardref34_bits.l0 k x (x.length : Int) ((i + 1 : Nat) : Int)) (fun k => ?_) ?_
      · simp only [examboardref34_bits.l0]; rw [if_pos (by omega), if_pos (by omega), if_pos (by omega), if_neg h0, if_pos h1, wrap_nat (by omega)]
      · have : isBit (rd x (i : Int)) = true := isBit_iff.2 (.inr h1)
        simpa [List.all_cons, this] using ih (i + 1) (by omega) (by omega)
    · refine Ev.step (f := fun _ => some false) (fun k => ?_) ?_
      · simp only [examboardref34_bits.l0]; rw [if_pos (by omega), if_pos (by omega), if_pos (by omega), if_neg h0, if_neg h1]
      · have : isBit (rd x (i : Int)) = false := by rw [Bool.eq_false_iff]; intro h; rcases isBit_iff.1 h with h | h <;> contradiction
        simpa [List.all_cons, this] using Ev.now false
theorem rbits_ev (x : List Int) (n : Nat) (hx : x.length < 9223372036854775807) : Ev (fun k => examboardref34_bits.f k x (n : Int)) (bitsS x n) := by
  unfold examboardref34_bits.f bitsS
  by_cases h : x.length = n
  · subst h
    refine Ev.iteP rfl ?_
    simpa using rbits_l0 x hx _ 0 rfl (Nat.zero_le _)
  · refine Ev.iteN (by omega) ?_
    simpa [h] using Ev.now false
theorem value_ev (v : List Int) (rs : List S45) (fx x : List Int) (hcs : ∀ r ∈ rs, r.f0.length < 9223372036854775807) (hx : x.length < 9223372036854775807) : Ev (fun k => zeroone_Value.f k v rs fx x) (valueS v rs fx x) := by
  unfold zeroone_Value.f valueS
  refine Ev.bind (valid_ev v rs fx hcs) ?_
  by_cases h : validS v rs fx = 0
  · rw [if_pos h]
    have hv := (validS_iff v rs fx).1 h
    refine Ev.iteP h ?_
    rw [bits_some x _ hx]
    by_cases hb : bitsS x v.length = true
    · rw [if_pos hb]
      unfold bitsS at hb
      simp only [Bool.and_eq_true, decide_eq_true_eq] at hb
      have h1 : bitsS x v.length = true := by unfold bitsS; simp only [Bool.and_eq_true, decide_eq_true_eq]; exact hb
      refine Ev.bindS rfl (Ev.iteP h1 ?_)
      exact Ev.bind (product_ev v x hv.okV hb.2 (by rw [hb.1]; exact hv.vars) hb.1.symm) (Ev.now _)
    · rw [if_neg hb]
      exact Ev.bindS rfl (Ev.iteN hb (Ev.now _))
  · rw [if_neg h]
    exact Ev.iteN h (Ev.now _)
theorem rvalue_ev (v : List Int) (rs : List S45) (fx x : List Int) (hx : x.length < 9223372036854775807) : Ev (fun k => examboardref34_Value.f k v rs fx x) (valueS v rs fx x) := by
  unfold examboardref34_Value.f valueS
  refine Ev.bind (rvalid_ev v rs fx) ?_
  by_cases h : validS v rs fx = 0
  · rw [if_pos h]
    have hv := (validS_iff v rs fx).1 h
    refine Ev.iteP h (Ev.bind (rbits_ev x _ hx) ?_)
    by_cases hb : bitsS x v.length = true
    · rw [if_pos hb]
      have h1 := hb
      unfold bitsS at h1
      simp only [Bool.and_eq_true, decide_eq_true_eq] at h1
      refine Ev.iteP hb ?_
      exact Ev.bind (dot_ev v x hv.okV h1.2 (by rw [h1.1]; exact hv.vars) h1.1.symm) (Ev.now _)
    · rw [if_neg hb]
      exact Ev.iteN hb (Ev.now _)
  · rw [if_neg h]
    exact Ev.iteN h (Ev.now _)

/-! ### feasible -/
theorem feas_l1 {v : List Int} {rs : List S45} {fx : List Int} (h : ValidP v rs fx) {x : List Int} (hx : x.all isBit = true) (hl : x.length = v.length) :
    ∀ (d i : Nat), rs.length - i = d → i ≤ rs.length → Ev (fun k => zeroone_Feasible.l1 k x rs (rs.length : Int) (i : Int)) ((rs.drop i).all (rowS x)) := by
  have hrs := h.rows
  intro d
  induction d with
  | zero =>
    intro i hd hi
    rw [List.drop_eq_nil_of_le (by omega)]
    refine Ev.step (f := fun _ => some true) (fun k => ?_) (by simpa using Ev.now true)
    simp only [zeroone_Feasible.l1]; rw [if_neg (by omega)]
  | succ d ih =>
    intro i hd hi
    have hlt : i < rs.length := by omega
    rw [drop_rdT hlt, List.all_cons]
    have hr := h.row (rd_mem hlt)
    obtain ⟨r, hrd⟩ : ∃ r, r = rd_T45 rs (i : Int) := ⟨_, rfl⟩
    rw [← hrd] at hr ⊢
    have hv := h.vars
    refine Ev.step (f := fun k => (zeroone_product.f k r.f0 x).bind fun t182 => (if t182 < r.f1 then (some false) else (if t182 > r.f2 then (some false) else (zeroone_Feasible.l1 k x rs (rs.length : Int) ((i + 1 : Nat) : Int))))) (fun k => ?_) ?_
    · simp only [zeroone_Feasible.l1]; rw [if_pos (by omega), if_pos (by omega), if_pos (by omega), ← hrd, wrap_nat (by omega)]
    · refine Ev.bind (product_ev r.f0 x hr.2.2.2 hx (by omega) (by omega)) ?_
      by_cases h1 : dotS r.f0 x < r.f1
      · refine Ev.iteP h1 ?_
        have : rowS x r = false := by unfold rowS; rw [decide_eq_false (by omega)]; rfl
        simpa [this] using Ev.now false
      · refine Ev.iteN h1 ?_
        by_cases h2 : dotS r.f0 x > r.f2
        · refine Ev.iteP h2 ?_
          have : rowS x r = false := by unfold rowS; rw [decide_eq_false (show ¬ dotS r.f0 x ≤ r.f2 by omega), Bool.and_false]
          simpa [this] using Ev.now false
        · refine Ev.iteN h2 ?_
          have : rowS x r = true := by unfold rowS; rw [decide_eq_true (by omega), decide_eq_true (by omega)]; rfl
          simpa [this] using ih (i + 1) (by omega) (by omega)
theorem feas_l0 {v : List Int} {rs : List S45} {fx : List Int} (h : ValidP v rs fx) {x : List Int} (hx : x.all isBit = true) (hl : x.length = v.length) :
    ∀ (d i : Nat), fx.length - i = d → i ≤ fx.length → Ev (fun k => zeroone_Feasible.l0 k x fx (fx.length : Int) (i : Int) v rs fx) (fixS (fx.drop i) (x.drop i) && rs.all (rowS x)) := by
  have hf := h.fixed
  have hv := h.vars
  intro d
  induction d with
  | zero =>
    intro i hd hi
    rw [List.drop_eq_nil_of_le (by omega), List.drop_eq_nil_of_le (by omega)]
    refine Ev.step (f := fun k => zeroone_Feasible.l1 k x rs (rs.length : Int) 0) (fun k => ?_) ?_
    · simp only [zeroone_Feasible.l0]; rw [if_neg (by omega)]
    · simpa [fixS] using feas_l1 h hx hl _ 0 rfl (Nat.zero_le _)
  | succ d ih =>
    intro i hd hi
    have hlt : i < fx.length := by omega
    have hlx : i < x.length := by omega
    have hok := all_rd h.okF hlt
    rw [drop_rd hlt, drop_rd hlx]
    unfold okFix at hok
    simp only [Bool.and_eq_true, decide_eq_true_eq] at hok
    by_cases h0 : rd fx (i : Int) ≥ 0
    · by_cases h1 : rd fx (i : Int) = rd x (i : Int)
      · refine Ev.step (f := fun k => zeroone_Feasible.l0 k x fx (fx.length : Int) ((i + 1 : Nat) : Int) v rs fx) (fun k => ?_) ?_
        · simp only [zeroone_Feasible.l0]; rw [if_pos (by omega), if_pos (by omega), if_pos (by omega), if_pos h0, if_pos (by omega), if_pos h1, wrap_nat (by omega)]
        · simpa [fixS, h1] using ih (i + 1) (by omega) (by omega)
      · refine Ev.step (f := fun _ => some false) (fun k => ?_) ?_
        · simp only [zeroone_Feasible.l0]; rw [if_pos (by omega), if_pos (by omega), if_pos (by omega), if_pos h0, if_pos (by omega), if_neg h1]
        · have : (rd fx (i : Int) == -1) = false := by rw [beq_eq_false_iff_ne]; omega
          have e1 : (rd fx (i : Int) == rd x (i : Int)) = false := by rw [beq_eq_false_iff_ne]; exact h1
          simpa [fixS, e1, this] using Ev.now false
    · have h2 : rd fx (i : Int) = -1 := by omega
      refine Ev.step (f := fun k => zeroone_Feasible.l0 k x fx (fx.length : Int) ((i + 1 : Nat) : Int) v rs fx) (fun k => ?_) ?_
      · simp only [zeroone_Feasible.l0]; rw [if_pos (by omega), if_pos (by omega), if_pos (by omega), if_neg h0, wrap_nat (by omega)]
      · simpa [fixS, h2] using ih (i + 1) (by omega) (by omega)
theorem feasible_ev (v : List Int) (rs : List S45) (fx x : List Int) (hcs : ∀ r ∈ rs, r.f0.length < 9223372036854775807) (hx : x.length < 9223372036854775807) : Ev (fun k => zeroone_Feasible.f k v rs fx x) (feasS v rs fx x) := by
  unfold zeroone_Feasible.f feasS
  refine Ev.bind (valid_ev v rs fx hcs) ?_
  by_cases h : validS v rs fx = 0
  · refine Ev.iteP h ?_
    rw [bits_some x _ hx, decide_eq_true h, Bool.true_and]
    refine Ev.bindS rfl ?_
    cases hb : bitsS x v.length with
    | false => exact Ev.step (f := fun _ => some false) (fun k => by simp only [zeroone_Feasible.j0]; rfl) (Ev.now _)
    | true =>
      have hv := (validS_iff v rs fx).1 h
      unfold bitsS at hb
      simp only [Bool.and_eq_true, decide_eq_true_eq] at hb
      refine Ev.step (f := fun k => zeroone_Feasible.l0 k x fx (fx.length : Int) 0 v rs fx) (fun k => by simp only [zeroone_Feasible.j0]; rfl) ?_
      simpa using feas_l0 hv hb.2 hb.1 _ 0 rfl (Nat.zero_le _)
  · refine Ev.iteN h ?_
    rw [decide_eq_false h, Bool.false_and]
    exact Ev.step (f := fun _ => some false) (fun k => by simp only [zeroone_Feasible.j0]; rfl) (Ev.now _)
theorem rfeas_l1 {v : List Int} {rs : List S45} {fx : List Int} (h : ValidP v rs fx) {x : List Int} (hx : x.all isBit = true) (hl : x.length = v.length) :
    ∀ (d i : Nat), rs.length - i = d → i ≤ rs.length → Ev (fun k => examboardref34_Feasible.l1 k x (i : Int) v rs fx) ((rs.drop i).all (rowS x)) := by
  have hrs := h.rows
  intro d
  induction d with
  | zero =>
    intro i hd hi
    rw [List.drop_eq_nil_of_le (by omega)]
    refine Ev.step (f := fun _ => some true) (fun k => ?_) (by simpa using Ev.now true)
    simp only [examboardref34_Feasible.l1]; rw [if_neg (by omega)]
  | succ d ih =>
    intro i hd hi
    have hlt : i < rs.length := by omega
    rw [drop_rdT hlt, List.all_cons]
    have hr := h.row (rd_mem hlt)
    obtain ⟨r, hrd⟩ : ∃ r, r = rd_T45 rs (i : Int) := ⟨_, rfl⟩
    rw [← hrd] at hr ⊢
    have hv := h.vars
    refine Ev.step (f := fun k => (examboardref34_dot.f k r.f0 x).bind fun t182 => (if t182 < r.f1 then (some false) else (if t182 > r.f2 then (some false) else (examboardref34_Feasible.l1 k x ((i + 1 : Nat) : Int) v rs fx)))) (fun k => ?_) ?_
    · simp only [examboardref34_Feasible.l1]; rw [if_pos (by omega), if_pos (by omega), ← hrd, wrap_nat (by omega)]
    · refine Ev.bind (dot_ev r.f0 x hr.2.2.2 hx (by omega) (by omega)) ?_
      by_cases h1 : dotS r.f0 x < r.f1
      · refine Ev.iteP h1 ?_
        have : rowS x r = false := by unfold rowS; rw [decide_eq_false (by omega)]; rfl
        simpa [this] using Ev.now false
      · refine Ev.iteN h1 ?_
        by_cases h2 : dotS r.f0 x > r.f2
        · refine Ev.iteP h2 ?_
          have : rowS x r = false := by unfold rowS; rw [decide_eq_false (show ¬ dotS r.f0 x ≤ r.f2 by omega), Bool.and_false]
          simpa [this] using Ev.now false
        · refine Ev.iteN h2 ?_
          have : rowS x r = true := by unfold rowS; rw [decide_eq_true (by omega), decide_eq_true (by omega)]; rfl
          simpa [this] using ih (i + 1) (by omega) (by omega)
theorem rfeas_l0 {v : List Int} {rs : List S45} {fx : List Int} (h : ValidP v rs fx) {x : List Int} (hx : x.all isBit = true) (hl : x.length = v.length) :
    ∀ (d i : Nat), x.length - i = d → i ≤ x.length → Ev (fun k => examboardref34_Feasible.l0 k x (i : Int) v rs fx) (fixS (fx.drop i) (x.drop i) && rs.all (rowS x)) := by
  have hf := h.fixed
  have hv := h.vars
  intro d
  induction d with
  | zero =>
    intro i hd hi
    rw [List.drop_eq_nil_of_le (by omega), List.drop_eq_nil_of_le (by omega)]
    refine Ev.step (f := fun k => examboardref34_Feasible.l1 k x 0 v rs fx) (fun k => ?_) ?_
    · simp only [examboardref34_Feasible.l0]; rw [if_neg (by omega)]
    · simpa [fixS] using rfeas_l1 h hx hl _ 0 rfl (Nat.zero_le _)
  | succ d ih =>
    intro i hd hi
    have hlt : i < fx.length := by omega
    have hlx : i < x.length := by omega
    rw [drop_rd hlt, drop_rd hlx]
    by_cases h2 : rd fx (i : Int) = -1
    · refine Ev.step (f := fun k => examboardref34_Feasible.l0 k x ((i + 1 : Nat) : Int) v rs fx) (fun k => ?_) ?_
      · simp only [examboardref34_Feasible.l0]; rw [if_pos (by omega), if_pos (by omega), if_pos (by omega), if_pos h2, wrap_nat (by omega)]
      · simpa [fixS, h2] using ih (i + 1) (by omega) (by omega)
    · by_cases h1 : rd fx (i : Int) = rd x (i : Int)
      · refine Ev.step (f := fun k => examboardref34_Feasible.l0 k x ((i + 1 : Nat) : Int) v rs fx) (fun k => ?_) ?_
        · simp only [examboardref34_Feasible.l0]; rw [if_pos (by omega), if_pos (by omega), if_pos (by omega), if_neg h2, if_pos h1, wrap_nat (by omega)]
        · simpa [fixS, h1] using ih (i + 1) (by omega) (by omega)
      · refine Ev.step (f := fun _ => some false) (fun k => ?_) ?_
        · simp only [examboardref34_Feasible.l0]; rw [if_pos (by omega), if_pos (by omega), if_pos (by omega), if_neg h2, if_neg h1]
        · have : (rd fx (i : Int) == -1) = false := by rw [beq_eq_false_iff_ne]; exact h2
          have e1 : (rd fx (i : Int) == rd x (i : Int)) = false := by rw [beq_eq_false_iff_ne]; exact h1
          simpa [fixS, e1, this] using Ev.now false
theorem rfeasible_ev (v : List Int) (rs : List S45) (fx x : List Int) (hx : x.length < 9223372036854775807) : Ev (fun k => examboardref34_Feasible.f k v rs fx x) (feasS v rs fx x) := by
  unfold examboardref34_Feasible.f feasS
  refine Ev.bind (rvalid_ev v rs fx) ?_
  by_cases h : validS v rs fx = 0
  · refine Ev.iteP h (Ev.bind (rbits_ev x _ hx) ?_)
    rw [decide_eq_true h, Bool.true_and]
    cases hb : bitsS x v.length with
    | false => exact Ev.step (f := fun _ => some false) (fun k => by simp only [examboardref34_Feasible.j0]; rfl) (Ev.now _)
    | true =>
      have hv := (validS_iff v rs fx).1 h
      unfold bitsS at hb
      simp only [Bool.and_eq_true, decide_eq_true_eq] at hb
      refine Ev.step (f := fun k => examboardref34_Feasible.l0 k x 0 v rs fx) (fun k => by simp only [examboardref34_Feasible.j0]; rfl) ?_
      simpa using rfeas_l0 hv hb.2 hb.1 _ 0 rfl (Nat.zero_le _)
  · refine Ev.iteN h ?_
    rw [decide_eq_false h, Bool.false_and]
    exact Ev.step (f := fun _ => some false) (fun k => by simp only [examboardref34_Feasible.j0]; rfl) (Ev.now _)
end Go.Proofs.Ythicnegcpafkkaa.Spec
