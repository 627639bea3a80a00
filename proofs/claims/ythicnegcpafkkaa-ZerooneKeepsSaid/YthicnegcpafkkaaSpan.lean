/- What the program's span and Bound and the reference's answer: the sums of the least and of the greatest terms; for valid lists nothing wraps. -/
import Derived.Test.YthicnegcpafkkaaAllx4
import Derived.Test.YthicnegcpafkkaaAllx4
import Derived.Test.YthicnegcpafkkaaAllx8
import Derived.Test.YthicnegcpafkkaaAllx8
import Derived.Test.YthicnegcpafkkaaValid
set_option linter.unusedVariables false
namespace Go.Proofs.Ythicnegcpafkkaa.Spec
open Go.RowKit Go.Proofs.YthicnegcpafkkaaW.PrintWords Go.Proofs.YthicnegcpafkkaaW.PrintMore Go.Proofs.Ythicnegcpafkkaa.All Go.Proofs.Ythicnegcpafkkaa.Opener

/-- The least, and the greatest, that a term can add. -/
def tlo (c f : Int) : Int := if f = 1 then c else if f = -1 then (if c < 0 then c else 0) else 0
def thi (c f : Int) : Int := if f = 1 then c else if f = -1 then (if 0 < c then c else 0) else 0
def loS : List Int → List Int → Int
  | c :: cs, f :: fs => tlo c f + loS cs fs
  | _, _ => 0
def hiS : List Int → List Int → Int
  | c :: cs, f :: fs => thi c f + hiS cs fs
  | _, _ => 0
theorem okCoef_le {c : Int} (h : okCoef c = true) : -1000000 ≤ c ∧ c ≤ 1000000 := by
  unfold okCoef at h
  simpa using h
theorem all_rd {l : List Int} {p : Int → Bool} (h : l.all p = true) {i : Nat} (hi : i < l.length) : p (rd l (i : Int)) = true := by
  rw [List.all_eq_true] at h
  rw [rd_nat, List.getD_eq_getElem?_getD, List.getElem?_eq_getElem hi]
  exact h _ (List.getElem_mem hi)
theorem span_l0 (cs fx : List Int) (hc : cs.all okCoef = true) (hn : cs.length ≤ 24) (hf : fx.length = cs.length) :
    ∀ (d i : Nat) (lo hi : Int), cs.length - i = d → i ≤ cs.length → (-1000000 * (i : Int) ≤ lo ∧ lo ≤ 1000000 * (i : Int)) → (-1000000 * (i : Int) ≤ hi ∧ hi ≤ 1000000 * (i : Int)) →
      Ev (fun k => zeroone_span.l0 k cs fx lo hi (i : Int)) (lo + loS (cs.drop i) (fx.drop i), hi + hiS (cs.drop i) (fx.drop i)) := by
  intro d
  induction d with
  | zero =>
    intro i lo hi hd hi1 hlo hhi
    rw [List.drop_eq_nil_of_le (by omega), List.drop_eq_nil_of_le (by omega)]
    refine Ev.step (f := fun _ => some (lo, hi)) (fun k => ?_) ?_
    · simp only [zeroone_span.l0]; rw [if_neg (by omega)]
    · simpa [loS, hiS] using Ev.now (lo, hi)
  | succ d ih =>
    intro i lo hi hd hi1 hlo hhi
    have hlt : i < cs.length := by omega
    have hlf : i < fx.length := by omega
    have hb := okCoef_le (all_rd hc hlt)
    rw [drop_rd hlt, drop_rd hlf]
    obtain ⟨c, hcd⟩ : ∃ c, c = rd cs (i : Int) := ⟨_, rfl⟩
    obtain ⟨f, hfd⟩ : ∃ f, f = rd fx (i : Int) := ⟨_, rfl⟩
    rw [← hcd] at hb ⊢
    rw [← hfd]
    have hstep : ∀ k, zeroone_span.l0 (k + 1) cs fx lo hi (i : Int) = zeroone_span.l0 k cs fx (lo + tlo c f) (hi + thi c f) ((i + 1 : Nat) : Int) := by
      intro k
      simp only [zeroone_span.l0]; rw [if_pos (by omega), if_pos (by omega), if_pos (by omega), wrap_nat (by omega), ← hcd, ← hfd]
      by_cases h1 : f = 1
      · rw [if_pos h1, wrap_in (by omega) (by omega), wrap_in (by omega) (by omega)]; unfold tlo thi; rw [if_pos h1, if_pos h1]
      · rw [if_neg h1]
        by_cases h2 : f = -1
        · rw [if_pos h2]
          have e1 : mn c 0 = tlo c f := by unfold mn tlo; rw [if_neg h1, if_pos h2]; split <;> split <;> omega
          have e2 : mx c 0 = thi c f := by unfold mx thi; rw [if_neg h1, if_pos h2]; split <;> split <;> omega
          have b1 : -1000000 ≤ tlo c f ∧ tlo c f ≤ 1000000 := by unfold tlo; rw [if_neg h1, if_pos h2]; split <;> omega
          have b2 : -1000000 ≤ thi c f ∧ thi c f ≤ 1000000 := by unfold thi; rw [if_neg h1, if_pos h2]; split <;> omega
          rw [e1, e2, wrap_in (by omega) (by omega), wrap_in (by omega) (by omega)]
        · rw [if_neg h2]; unfold tlo thi; rw [if_neg h1, if_neg h2, if_neg h1, if_neg h2, Int.add_zero, Int.add_zero]
    have b1 : -1000000 ≤ tlo c f ∧ tlo c f ≤ 1000000 := by unfold tlo; split <;> (try split) <;> (try split) <;> omega
    have b2 : -1000000 ≤ thi c f ∧ thi c f ≤ 1000000 := by unfold thi; split <;> (try split) <;> (try split) <;> omega
    refine Ev.step (f := fun k => zeroone_span.l0 k cs fx (lo + tlo c f) (hi + thi c f) ((i + 1 : Nat) : Int)) hstep ?_
    have h3 := ih (i + 1) (lo + tlo c f) (hi + thi c f) (by omega) (by omega) (by omega) (by omega)
    simpa [loS, hiS, Int.add_assoc] using h3
theorem span_ev (cs fx : List Int) (hc : cs.all okCoef = true) (hn : cs.length ≤ 24) (hf : fx.length = cs.length) (i : Nat) (hi : i ≤ cs.length) :
    Ev (fun k => zeroone_span.f k cs fx (i : Int)) (loS (cs.drop i) (fx.drop i), hiS (cs.drop i) (fx.drop i)) := by
  have h := span_l0 cs fx hc hn hf _ i 0 0 rfl hi (by omega) (by omega)
  rw [Int.zero_add, Int.zero_add] at h
  exact h
theorem rspan_l0 (cs fx : List Int) (hc : cs.all okCoef = true) (hn : cs.length ≤ 24) (hf : fx.length = cs.length) :
    ∀ (d i : Nat) (lo hi : Int), cs.length - i = d → i ≤ cs.length → (-1000000 * (i : Int) ≤ lo ∧ lo ≤ 1000000 * (i : Int)) → (-1000000 * (i : Int) ≤ hi ∧ hi ≤ 1000000 * (i : Int)) →
      Ev (fun k => examboardref34_span.l0 k cs fx lo hi (i : Int)) (lo + loS (cs.drop i) (fx.drop i), hi + hiS (cs.drop i) (fx.drop i)) := by
  intro d
  induction d with
  | zero =>
    intro i lo hi hd hi1 hlo hhi
    rw [List.drop_eq_nil_of_le (by omega), List.drop_eq_nil_of_le (by omega)]
    refine Ev.step (f := fun _ => some (lo, hi)) (fun k => ?_) ?_
    · simp only [examboardref34_span.l0]; rw [if_neg (by omega)]
    · simpa [loS, hiS] using Ev.now (lo, hi)
  | succ d ih =>
    intro i lo hi hd hi1 hlo hhi
    have hlt : i < cs.length := by omega
    have hlf : i < fx.length := by omega
    have hb := okCoef_le (all_rd hc hlt)
    rw [drop_rd hlt, drop_rd hlf]
    obtain ⟨c, hcd⟩ : ∃ c, c = rd cs (i : Int) := ⟨_, rfl⟩
    obtain ⟨f, hfd⟩ : ∃ f, f = rd fx (i : Int) := ⟨_, rfl⟩
    rw [← hcd] at hb ⊢
    rw [← hfd]
    have b1 : -1000000 ≤ tlo c f ∧ tlo c f ≤ 1000000 := by unfold tlo; split <;> (try split) <;> (try split) <;> omega
    have b2 : -1000000 ≤ thi c f ∧ thi c f ≤ 1000000 := by unfold thi; split <;> (try split) <;> (try split) <;> omega
    have h3 := ih (i + 1) (lo + tlo c f) (hi + thi c f) (by omega) (by omega) (by omega) (by omega)
    have h4 : Ev (fun k => examboardref34_span.l0 k cs fx (lo + tlo c f) (hi + thi c f) ((i + 1 : Nat) : Int)) (lo + loS (c :: cs.drop (i + 1)) (f :: fx.drop (i + 1)), hi + hiS (c :: cs.drop (i + 1)) (f :: fx.drop (i + 1))) := by
      simpa [loS, hiS, Int.add_assoc] using h3
    by_cases h1 : f = 1
    · refine Ev.step (f := fun k => examboardref34_span.j1 k cs fx lo hi (i : Int) true) (fun k => ?_) ?_
      · simp only [examboardref34_span.l0]; rw [if_pos (by omega), if_pos (by omega), if_pos (by omega), ← hfd, if_pos h1]
      · refine Ev.step (f := fun k => examboardref34_span.l0 k cs fx (lo + tlo c f) (hi + thi c f) ((i + 1 : Nat) : Int)) (fun k => ?_) h4
        simp only [examboardref34_span.j1]; rw [if_pos trivial, if_pos (by omega), if_pos (by omega), if_pos (by omega), ← hfd, if_pos h1, ← hcd, wrap_in (by omega) (by omega), wrap_in (by omega) (by omega), wrap_nat (by omega)]
        unfold tlo thi; rw [if_pos h1, if_pos h1]
    by_cases h2 : f = -1
    · refine Ev.step (f := fun k => examboardref34_span.j1 k cs fx lo hi (i : Int) (decide (c < 0))) (fun k => ?_) ?_
      · simp only [examboardref34_span.l0]; rw [if_pos (by omega), if_pos (by omega), if_pos (by omega), ← hfd, if_neg h1, if_pos h2, ← hcd]
      · refine Ev.step (f := fun k => examboardref34_span.l0 k cs fx (lo + tlo c f) (hi + thi c f) ((i + 1 : Nat) : Int)) (fun k => ?_) h4
        simp only [examboardref34_span.j1]
        by_cases h5 : c < 0
        · rw [if_pos (decide_eq_true h5), if_pos (by omega), if_pos (by omega), if_pos (by omega), ← hfd, if_neg h1, if_pos h2, ← hcd, if_neg (by omega), wrap_in (by omega) (by omega), wrap_nat (by omega)]
          unfold tlo thi; rw [if_neg h1, if_neg h1, if_pos h2, if_pos h2, if_pos h5, if_neg (by omega), Int.add_zero]
        · rw [if_neg (by rw [decide_eq_false h5]; decide), if_pos (by omega), if_pos (by omega), ← hfd, if_neg h1, if_pos h2, if_pos (by omega), ← hcd]
          by_cases h6 : c > 0
          · rw [if_pos h6, wrap_in (by omega) (by omega), wrap_nat (by omega)]
            unfold tlo thi; rw [if_neg h1, if_neg h1, if_pos h2, if_pos h2, if_neg h5, if_pos (by omega), Int.add_zero]
          · rw [if_neg h6, wrap_nat (by omega)]
            unfold tlo thi; rw [if_neg h1, if_neg h1, if_pos h2, if_pos h2, if_neg h5, if_neg (by omega), Int.add_zero, Int.add_zero]
    · refine Ev.step (f := fun k => examboardref34_span.j1 k cs fx lo hi (i : Int) false) (fun k => ?_) ?_
      · simp only [examboardref34_span.l0]; rw [if_pos (by omega), if_pos (by omega), if_pos (by omega), ← hfd, if_neg h1, if_neg h2]
      · refine Ev.step (f := fun k => examboardref34_span.l0 k cs fx (lo + tlo c f) (hi + thi c f) ((i + 1 : Nat) : Int)) (fun k => ?_) h4
        simp only [examboardref34_span.j1]; rw [if_neg (by decide), if_pos (by omega), if_pos (by omega), ← hfd, if_neg h1, if_neg h2, wrap_nat (by omega)]
        unfold tlo thi; rw [if_neg h1, if_neg h1, if_neg h2, if_neg h2, Int.add_zero, Int.add_zero]
theorem rspan_ev (cs fx : List Int) (hc : cs.all okCoef = true) (hn : cs.length ≤ 24) (hf : fx.length = cs.length) :
    Ev (fun k => examboardref34_span.f k cs fx) (loS cs fx, hiS cs fx) := by
  have h := rspan_l0 cs fx hc hn hf _ 0 0 0 rfl (Nat.zero_le _) (by omega) (by omega)
  have h' : Ev (fun k => examboardref34_span.l0 k cs fx 0 0 0) (loS cs fx, hiS cs fx) := by simpa using h
  exact h'

/-! ### valid programs -/
structure ValidP (v : List Int) (rs : List S45) (fx : List Int) : Prop where
  vars : v.length ≤ 24
  rows : rs.length ≤ 60
  fixed : fx.length = v.length
  coefs : ∀ r ∈ rs, r.f0.length = v.length
  okV : v.all okCoef = true
  okF : fx.all okFix = true
  okR : rs.all okRow = true
theorem validS_iff (v : List Int) (rs : List S45) (fx : List Int) : validS v rs fx = 0 ↔ ValidP v rs fx := by
  constructor
  · intro h
    unfold validS at h
    by_cases h1 : 24 < v.length ∨ 60 < rs.length
    · rw [if_pos h1] at h; exact absurd h (by decide)
    rw [if_neg h1] at h
    by_cases h2 : fx.length ≠ v.length
    · rw [if_pos h2] at h; exact absurd h (by decide)
    rw [if_neg h2] at h
    by_cases h3 : rs.all (fun r => r.f0.length == v.length) = false
    · rw [if_pos h3] at h; exact absurd h (by decide)
    rw [if_neg h3] at h
    by_cases h4 : (v.all okCoef && fx.all okFix && rs.all okRow) = true
    · simp only [Bool.and_eq_true] at h4
      refine ⟨by omega, by omega, by omega, fun r hr => ?_, h4.1.1, h4.1.2, h4.2⟩
      have h5 : rs.all (fun r => r.f0.length == v.length) = true := by simpa using h3
      rw [List.all_eq_true] at h5
      simpa using h5 r hr
    · rw [if_neg h4] at h; exact absurd h (by decide)
  · rintro ⟨h1, h2, h3, h4, h5, h6, h7⟩
    unfold validS
    rw [if_neg (by omega), if_neg (by omega), if_neg ?_, if_pos (by rw [h5, h6, h7]; rfl)]
    have h8 : rs.all (fun r => r.f0.length == v.length) = true := by
      rw [List.all_eq_true]; intro r hr; simpa using h4 r hr
    rw [h8]; decide
theorem okRow_parts {r : S45} (h : okRow r = true) : (-24000000 ≤ r.f1 ∧ r.f1 ≤ 24000000) ∧ (-24000000 ≤ r.f2 ∧ r.f2 ≤ 24000000) ∧ r.f0.all okCoef = true := by
  unfold okRow okSum at h
  simp only [Bool.and_eq_true, decide_eq_true_eq] at h
  exact ⟨h.1.1, h.1.2, h.2⟩
theorem ValidP.row {v : List Int} {rs : List S45} {fx : List Int} (h : ValidP v rs fx) {r : S45} (hr : r ∈ rs) : r.f0.length = v.length ∧ (-24000000 ≤ r.f1 ∧ r.f1 ≤ 24000000) ∧ (-24000000 ≤ r.f2 ∧ r.f2 ≤ 24000000) ∧ r.f0.all okCoef = true :=
  ⟨h.coefs r hr, okRow_parts (List.all_eq_true.1 h.okR r hr)⟩
/-- Bound: what the values allow at most. -/
def boundS (v : List Int) (rs : List S45) (fx : List Int) : Int × Int := if validS v rs fx = 0 then (hiS v fx, 0) else (0, validS v rs fx)
theorem bound_ev (v : List Int) (rs : List S45) (fx : List Int) (hcs : ∀ r ∈ rs, r.f0.length < 9223372036854775807) : Ev (fun k => zeroone_Bound.f k v rs fx) (boundS v rs fx) := by
  unfold zeroone_Bound.f boundS
  refine Ev.bind (valid_ev v rs fx hcs) ?_
  by_cases h : validS v rs fx = 0
  · rw [if_pos h]
    obtain ⟨h1, h2, h3, h4, h5, h6, h7⟩ := (validS_iff v rs fx).1 h
    refine Ev.iteP h ?_
    have h8 := span_ev v fx h5 h1 h3 0 (Nat.zero_le _)
    simp only [List.drop_zero] at h8
    exact Ev.bind h8 (Ev.now _)
  · rw [if_neg h]
    exact Ev.iteN h (Ev.now _)
theorem rbound_ev (v : List Int) (rs : List S45) (fx : List Int) : Ev (fun k => examboardref34_Bound.f k v rs fx) (boundS v rs fx) := by
  unfold examboardref34_Bound.f boundS
  refine Ev.bind (rvalid_ev v rs fx) ?_
  by_cases h : validS v rs fx = 0
  · rw [if_pos h]
    obtain ⟨h1, h2, h3, h4, h5, h6, h7⟩ := (validS_iff v rs fx).1 h
    refine Ev.iteP h ?_
    exact Ev.bind (rspan_ev v fx h5 h1 h3) (Ev.now _)
  · rw [if_neg h]
    exact Ev.iteN h (Ev.now _)
theorem coefs_fit {rs : List S45} (h : RowOk 40 RowFits rs) : ∀ r ∈ rs, r.f0.length < 9223372036854775807 := by
  intro r hr
  have := (h.2 r hr).1.1
  omega
end Go.Proofs.Ythicnegcpafkkaa.Spec
