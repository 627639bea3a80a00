/- What the program's Tighten and the reference's answer: both fix one variable after the other until no row decides one; they look at the rows in another order and still answer alike. -/
import Derived.Test.YthicnegcpafkkaaAllx22
import Derived.Test.YthicnegcpafkkaaAllx26
import Derived.Test.YthicnegcpafkkaaAllx23
import Derived.Test.YthicnegcpafkkaaAllx24
import Derived.Test.YthicnegcpafkkaaSpan
set_option linter.unusedVariables false
namespace Go.Proofs.Ythicnegcpafkkaa.Spec
open Go.RowKit Go.Proofs.YthicnegcpafkkaaW.PrintWords Go.Proofs.YthicnegcpafkkaaW.PrintMore Go.Proofs.Ythicnegcpafkkaa.All Go.Proofs.Ythicnegcpafkkaa.Opener

def satS (r : S45) (fx : List Int) : Bool := decide (r.f1 ≤ r.f2) && (decide (loS r.f0 fx ≤ r.f2) && decide (hiS r.f0 fx ≥ r.f1))
/-- The first free variable from i on that a row decides, fixed. -/
def forceS (r : S45) (fx : List Int) : Nat → Nat → Option (List Int)
  | 0, _ => none
  | d + 1, i => if rd fx (i : Int) = -1 then (if satS r (fx.set i 0) = false then some (fx.set i 1) else if satS r (fx.set i 1) = false then some (fx.set i 0) else forceS r fx d (i + 1)) else forceS r fx d (i + 1)
def firstS : List S45 → List Int → Option (List Int)
  | [], _ => none
  | r :: rs, fx => match forceS r fx fx.length 0 with
    | some fx' => some fx'
    | none => firstS rs fx
def freeS (fx : List Int) : Nat := (fx.filter (· == -1)).length
def tightenS (rs : List S45) : Nat → List Int → Option (List Int)
  | 0, fx => if rs.all (fun r => satS r fx) = true then some fx else none
  | n + 1, fx => if rs.all (fun r => satS r fx) = true then (match firstS rs fx with | some fx' => tightenS rs n fx' | none => some fx) else none
/-- Rows over n variables whose coefficients are small. -/
def RowsIn (n : Nat) (rs : List S45) : Prop := ∀ r ∈ rs, r.f0.length = n ∧ r.f0.all okCoef = true
theorem ValidP.rowsIn {v : List Int} {rs : List S45} {fx : List Int} (h : ValidP v rs fx) : RowsIn v.length rs := fun r hr => ⟨(h.row hr).1, (h.row hr).2.2.2⟩

theorem sat_ev (r : S45) (fx : List Int) (hc : r.f0.all okCoef = true) (hn : r.f0.length ≤ 24) (hf : fx.length = r.f0.length) : Ev (fun k => zeroone_satisfiable.f k r.f0 r.f1 r.f2 fx) (satS r fx) := by
  unfold zeroone_satisfiable.f satS
  have h := span_ev r.f0 fx hc hn hf 0 (Nat.zero_le _)
  simp only [List.drop_zero] at h
  refine Ev.bind h ?_
  by_cases h1 : r.f1 ≤ r.f2
  · refine Ev.iteP h1 ?_
    by_cases h2 : loS r.f0 fx ≤ r.f2
    · refine Ev.iteP h2 ?_
      rw [decide_eq_true h1, decide_eq_true h2]
      exact Ev.now _
    · refine Ev.iteN h2 ?_
      rw [decide_eq_false h2, Bool.false_and, Bool.and_false]
      exact Ev.now _
  · refine Ev.iteN h1 ?_
    rw [decide_eq_false h1, Bool.false_and]
    exact Ev.now _
theorem can_ev (r : S45) (fx : List Int) (hc : r.f0.all okCoef = true) (hn : r.f0.length ≤ 24) (hf : fx.length = r.f0.length) : Ev (fun k => examboardref34_can.f k r.f0 r.f1 r.f2 fx) (satS r fx) := by
  unfold examboardref34_can.f satS
  refine Ev.bind (rspan_ev r.f0 fx hc hn hf) ?_
  by_cases h1 : r.f1 ≤ r.f2
  · refine Ev.iteP h1 ?_
    by_cases h2 : loS r.f0 fx ≤ r.f2
    · refine Ev.iteP h2 ?_
      rw [decide_eq_true h1, decide_eq_true h2]
      exact Ev.now _
    · refine Ev.iteN h2 ?_
      rw [decide_eq_false h2, Bool.false_and, Bool.and_false]
      exact Ev.now _
  · refine Ev.iteN h1 ?_
    rw [decide_eq_false h1, Bool.false_and]
    exact Ev.now _
theorem set_back {fx : List Int} {i : Nat} {a : Int} (hi : i < fx.length) (h : rd fx (i : Int) = -1) : (fx.set i a).set i (-1) = fx := by
  rw [List.set_set]
  rw [rd_nat, List.getD_eq_getElem?_getD, List.getElem?_eq_getElem hi] at h
  simp at h
  rw [← h]
  exact List.set_getElem_self hi

/-! ### the program's force -/
theorem force_l0 (r : S45) (hc : r.f0.all okCoef = true) (hn : r.f0.length ≤ 24) :
    ∀ (d i : Nat) (fx : List Int), fx.length = r.f0.length → fx.length - i = d → i ≤ fx.length →
      Ev (fun k => zeroone_force.l0 k fx (fx.length : Int) (i : Int) r.f0 r.f1 r.f2) ((forceS r fx d i).isSome, (forceS r fx d i).getD fx) := by
  intro d
  induction d with
  | zero =>
    intro i fx hf hd hi
    refine Ev.step (f := fun _ => some (false, fx)) (fun k => ?_) (Ev.now _)
    simp only [zeroone_force.l0]; rw [if_neg (by omega)]
  | succ d ih =>
    intro i fx hf hd hi
    have hlt : i < fx.length := by omega
    by_cases h1 : rd fx (i : Int) = -1
    · refine Ev.step (f := fun k => zeroone_force.l1 k fx (i : Int) (fx.length : Int) (i : Int) [0, 1] 2 0 r.f0 r.f1 r.f2) (fun k => ?_) ?_
      · simp only [zeroone_force.l0]; rw [if_pos (by omega), if_pos (by omega), if_pos (by omega), if_pos h1]; rfl
      · refine Ev.step (f := fun k => (zeroone_satisfiable.f k r.f0 r.f1 r.f2 (fx.set i 0)).bind fun t210 => (if t210 = true then (zeroone_force.l1 k (fx.set i 0) (i : Int) (fx.length : Int) (i : Int) [0, 1] 2 1 r.f0 r.f1 r.f2) else (some (true, (fx.set i 0).set i 1)))) (fun k => ?_) ?_
        · simp only [zeroone_force.l1]; rw [if_pos (by decide), if_pos (by decide), if_pos (by decide), if_pos (by omega), if_pos (by omega)]
          simp only [Option.bind_some, Int.toNat_natCast, show rd [0, 1] 0 = 0 from rfl, show wrap64 (0 + 1) = 1 from by unfold wrap64; omega, show wrap64 (1 - 0) = 1 from by unfold wrap64; omega]
        · refine Ev.bind (sat_ev r (fx.set i 0) hc hn (by rw [List.length_set]; exact hf)) ?_
          by_cases h2 : satS r (fx.set i 0) = true
          · refine Ev.iteP h2 ?_
            refine Ev.step (f := fun k => (zeroone_satisfiable.f k r.f0 r.f1 r.f2 ((fx.set i 0).set i 1)).bind fun t210 => (if t210 = true then (zeroone_force.l1 k ((fx.set i 0).set i 1) (i : Int) (fx.length : Int) (i : Int) [0, 1] 2 2 r.f0 r.f1 r.f2) else (some (true, ((fx.set i 0).set i 1).set i 0)))) (fun k => ?_) ?_
            · simp only [zeroone_force.l1]; rw [if_pos (by decide), if_pos (by decide), if_pos (by decide), if_pos (by omega), if_pos (by rw [List.length_set]; omega)]
              simp only [Option.bind_some, Int.toNat_natCast, show rd [0, 1] 1 = 1 from rfl, show wrap64 (1 + 1) = 2 from by unfold wrap64; omega, show wrap64 (1 - 1) = 0 from by unfold wrap64; omega]
            · refine Ev.bind (sat_ev r _ hc hn (by rw [List.length_set, List.length_set]; exact hf)) ?_
              rw [List.set_set]
              by_cases h3 : satS r (fx.set i 1) = true
              · refine Ev.iteP h3 ?_
                refine Ev.step (f := fun k => zeroone_force.l0 k fx (fx.length : Int) ((i + 1 : Nat) : Int) r.f0 r.f1 r.f2) (fun k => ?_) ?_
                · simp only [zeroone_force.l1]; rw [if_neg (by decide), if_pos (by omega), if_pos (by rw [List.length_set]; omega), wrap_nat (by omega), Int.toNat_natCast]
                  rw [set_back (a := 1) hlt h1]
                · have h4 := ih (i + 1) fx hf (by omega) (by omega)
                  have h5 : forceS r fx (d + 1) i = forceS r fx d (i + 1) := by
                    unfold forceS; rw [if_pos h1, if_neg (by rw [h2]; decide), if_neg (by rw [h3]; decide)]
                    cases d <;> rfl
                  rw [h5]; exact h4
              · refine Ev.iteN h3 ?_
                have h5 : forceS r fx (d + 1) i = some (fx.set i 0) := by
                  unfold forceS; rw [if_pos h1, if_neg (by rw [h2]; decide), if_pos (by simpa using h3)]
                rw [h5, List.set_set]; exact Ev.now _
          · refine Ev.iteN h2 ?_
            have h5 : forceS r fx (d + 1) i = some (fx.set i 1) := by
              unfold forceS; rw [if_pos h1, if_pos (by simpa using h2)]
            rw [h5, List.set_set]; exact Ev.now _
    · refine Ev.step (f := fun k => zeroone_force.l0 k fx (fx.length : Int) ((i + 1 : Nat) : Int) r.f0 r.f1 r.f2) (fun k => ?_) ?_
      · simp only [zeroone_force.l0]; rw [if_pos (by omega), if_pos (by omega), if_pos (by omega), if_neg h1, wrap_nat (by omega)]
      · have h5 : forceS r fx (d + 1) i = forceS r fx d (i + 1) := by
          conv => lhs; unfold forceS
          rw [if_neg h1]
        rw [h5]; exact ih (i + 1) fx hf (by omega) (by omega)
theorem force_ev (r : S45) (fx : List Int) (hc : r.f0.all okCoef = true) (hn : r.f0.length ≤ 24) (hf : fx.length = r.f0.length) :
    Ev (fun k => zeroone_force.f k r.f0 r.f1 r.f2 fx) ((forceS r fx fx.length 0).isSome, (forceS r fx fx.length 0).getD fx) :=
  force_l0 r hc hn fx.length 0 fx hf rfl (Nat.zero_le _)

/-! ### what a step does to the free variables -/
theorem free_set {fx : List Int} {i : Nat} {v : Int} (hi : i < fx.length) (h : rd fx (i : Int) = -1) (hv : v ≠ -1) : freeS (fx.set i v) + 1 = freeS fx := by
  unfold freeS
  induction fx generalizing i with
  | nil => simp at hi
  | cons a l ih =>
    cases i with
    | zero =>
      have ha : a = -1 := by simpa [rd] using h
      have : (v == -1) = false := by rw [beq_eq_false_iff_ne]; exact hv
      simp [ha, this]
    | succ i =>
      have h1 : rd l (i : Int) = -1 := by rw [rd_nat] at h ⊢; exact h
      have := ih (i := i) (by simpa using hi) h1
      simp only [List.set_cons_succ, List.filter_cons]
      split <;> (try simp only [List.length_cons]) <;> omega
theorem force_form {r : S45} {fx : List Int} : ∀ (d i : Nat) {fx' : List Int}, i + d ≤ fx.length → forceS r fx d i = some fx' →
    ∃ j v, j < fx.length ∧ rd fx (j : Int) = -1 ∧ (v = 0 ∨ v = 1) ∧ fx' = fx.set j v ∧ (satS r (fx.set j (1 - v)) = false)
  | 0, _, _, _, h => by simp [forceS] at h
  | d + 1, i, fx', hl, h => by
    unfold forceS at h
    by_cases h1 : rd fx (i : Int) = -1
    · rw [if_pos h1] at h
      by_cases h2 : satS r (fx.set i 0) = false
      · rw [if_pos h2] at h
        exact ⟨i, 1, by omega, h1, .inr rfl, (Option.some.inj h).symm, h2⟩
      · rw [if_neg h2] at h
        by_cases h3 : satS r (fx.set i 1) = false
        · rw [if_pos h3] at h
          exact ⟨i, 0, by omega, h1, .inl rfl, (Option.some.inj h).symm, h3⟩
        · rw [if_neg h3] at h
          exact force_form d (i + 1) (by omega) h
    · rw [if_neg h1] at h
      exact force_form d (i + 1) (by omega) h
theorem first_form {fx : List Int} : ∀ {rs : List S45} {fx' : List Int}, firstS rs fx = some fx' → ∃ r ∈ rs, ∃ j v, j < fx.length ∧ rd fx (j : Int) = -1 ∧ (v = 0 ∨ v = 1) ∧ fx' = fx.set j v ∧ (satS r (fx.set j (1 - v)) = false)
  | [], fx', h => by simp [firstS] at h
  | r :: rs, fx', h => by
    unfold firstS at h
    cases hq : forceS r fx fx.length 0 with
    | some z =>
      rw [hq] at h
      obtain rfl := Option.some.inj h
      obtain ⟨j, v, hh⟩ := force_form fx.length 0 (by omega) hq
      exact ⟨r, List.mem_cons_self, j, v, hh⟩
    | none =>
      rw [hq] at h
      obtain ⟨r', hr', hh⟩ := first_form h
      exact ⟨r', List.mem_cons_of_mem _ hr', hh⟩
theorem first_free {fx fx' : List Int} {rs : List S45} (h : firstS rs fx = some fx') : fx'.length = fx.length ∧ freeS fx' + 1 = freeS fx := by
  obtain ⟨r, _, j, v, h1, h2, h3, rfl, _⟩ := first_form h
  exact ⟨by rw [List.length_set], free_set h1 h2 (by omega)⟩

/-! ### the program's Tighten -/
theorem clone_some (l : List Int) (h : l.length ≤ 24) : slices_Clone_int_int.f l = some l := by unfold slices_Clone_int_int.f; rw [if_pos (by omega)]
theorem tight_l3 (v fx : List Int) (rs : List S45) (hn : v.length ≤ 24) (hrs : RowsIn v.length rs) (hr : rs.length ≤ 60) :
    ∀ (d i : Nat), rs.length - i = d → i ≤ rs.length → Ev (fun k => zeroone_Tighten.l3 k rs (rs.length : Int) (i : Int) v (rs.take i) fx) (v, rs, fx, 0) := by
  intro d
  induction d with
  | zero =>
    intro i hd hi
    rw [List.take_of_length_le (by omega)]
    refine Ev.step (f := fun _ => some (v, rs, fx, 0)) (fun k => ?_) (Ev.now _)
    simp only [zeroone_Tighten.l3]; rw [if_neg (by omega)]
  | succ d ih =>
    intro i hd hi
    have hlt : i < rs.length := by omega
    have hm := hrs _ (rd_mem hlt)
    refine Ev.step (f := fun k => zeroone_Tighten.l3 k rs (rs.length : Int) ((i + 1 : Nat) : Int) v (rs.take (i + 1)) fx) (fun k => ?_) (ih (i + 1) (by omega) (by omega))
    simp only [zeroone_Tighten.l3]
    rw [if_pos (by omega), if_pos (by omega), if_pos (by omega), clone_some _ (by omega), Option.bind_some, if_pos (by rw [List.length_take]; omega), wrap_nat (by omega)]
    have e : rs.take i ++ [(⟨(rd_T45 rs (i : Int)).f0, (rd_T45 rs (i : Int)).f1, (rd_T45 rs (i : Int)).f2⟩ : S45)] = rs.take (i + 1) := by
      rw [List.take_succ_eq_append_getElem hlt]
      congr 1
      rw [rd_T45, Int.toNat_natCast, List.getD_eq_getElem?_getD, List.getElem?_eq_getElem hlt]; rfl
    rw [e]
def outS (v : List Int) (rs : List S45) (o : Option (List Int)) : List Int × List S45 × List Int × Int := match o with
  | some fx => (v, rs, fx, 0)
  | none => ([], [], [], 14)
theorem tight_l1 (v fx fx0 : List Int) (rs : List S45) (hn : v.length ≤ 24) (hf : fx.length = v.length) (hrs : RowsIn v.length rs) (hr : rs.length ≤ 60) (q : List Int × List S45 × List Int × Int)
    (hq : rs.all (fun r => satS r fx) = true → Ev (fun k => zeroone_Tighten.l2 k fx false rs (rs.length : Int) 0 v rs fx0) q) :
    ∀ (d i : Nat), rs.length - i = d → i ≤ rs.length → (rs.take i).all (fun r => satS r fx) = true →
      Ev (fun k => zeroone_Tighten.l1 k fx false rs (rs.length : Int) (i : Int) v rs fx0) (if rs.all (fun r => satS r fx) = true then q else ([], [], [], 14)) := by
  intro d
  induction d with
  | zero =>
    intro i hd hi ht
    rw [List.take_of_length_le (by omega)] at ht
    rw [if_pos ht]
    refine Ev.step (f := fun k => zeroone_Tighten.l2 k fx false rs (rs.length : Int) 0 v rs fx0) (fun k => ?_) (hq ht)
    simp only [zeroone_Tighten.l1]; rw [if_neg (by omega)]
  | succ d ih =>
    intro i hd hi ht
    have hlt : i < rs.length := by omega
    have hm := hrs _ (rd_mem hlt)
    have hrd : rd_T45 rs (i : Int) = rs[i] := by rw [rd_T45, Int.toNat_natCast, List.getD_eq_getElem?_getD, List.getElem?_eq_getElem hlt]; rfl
    refine Ev.step (f := fun k => (zeroone_satisfiable.f k (rd_T45 rs (i : Int)).f0 (rd_T45 rs (i : Int)).f1 (rd_T45 rs (i : Int)).f2 fx).bind fun t221 => (if t221 = true then (zeroone_Tighten.l1 k fx false rs (rs.length : Int) ((i + 1 : Nat) : Int) v rs fx0) else (some (([] : List Int), ([] : List S45), ([] : List Int), 14)))) (fun k => ?_) ?_
    · simp only [zeroone_Tighten.l1]; rw [if_pos (by omega), if_pos (by omega), if_pos (by omega), wrap_nat (by omega)]
    · refine Ev.bind (sat_ev _ fx hm.2 (by omega) (by omega)) ?_
      by_cases h1 : satS (rd_T45 rs (i : Int)) fx = true
      · refine Ev.iteP h1 (ih (i + 1) (by omega) (by omega) ?_)
        rw [List.take_succ_eq_append_getElem hlt, List.all_append, ht, ← hrd]; simpa using h1
      · refine Ev.iteN h1 ?_
        have h2 : ¬ rs.all (fun r => satS r fx) = true := fun h => h1 (List.all_eq_true.1 h _ (rd_mem hlt))
        rw [if_neg h2]; exact Ev.now _
theorem tight_l2 (v fx fx0 : List Int) (rs : List S45) (hn : v.length ≤ 24) (hf : fx.length = v.length) (hrs : RowsIn v.length rs) (hr : rs.length ≤ 60) (q0 : List Int × List S45 × List Int × Int) (q1 : List Int → List Int × List S45 × List Int × Int)
    (h0 : Ev (fun k => zeroone_Tighten.l0 k fx false v rs fx0) q0) :
    ∀ (d i : Nat), rs.length - i = d → i ≤ rs.length → (∀ fx', firstS (rs.drop i) fx = some fx' → Ev (fun k => zeroone_Tighten.l0 k fx' true v rs fx0) (q1 fx')) →
      Ev (fun k => zeroone_Tighten.l2 k fx false rs (rs.length : Int) (i : Int) v rs fx0) (match firstS (rs.drop i) fx with | some fx' => q1 fx' | none => q0) := by
  intro d
  induction d with
  | zero =>
    intro i hd hi h1
    rw [List.drop_eq_nil_of_le (by omega)]
    refine Ev.step (f := fun k => zeroone_Tighten.l0 k fx false v rs fx0) (fun k => ?_) h0
    simp only [zeroone_Tighten.l2]; rw [if_neg (by omega)]
  | succ d ih =>
    intro i hd hi h1
    have hlt : i < rs.length := by omega
    have hm := hrs _ (rd_mem hlt)
    refine Ev.step (f := fun k => (zeroone_force.f k (rd_T45 rs (i : Int)).f0 (rd_T45 rs (i : Int)).f1 (rd_T45 rs (i : Int)).f2 fx).bind fun bt224 => (if bt224.1 = true then (zeroone_Tighten.l0 k bt224.2 true v rs fx0) else (zeroone_Tighten.l2 k bt224.2 false rs (rs.length : Int) ((i + 1 : Nat) : Int) v rs fx0))) (fun k => ?_) ?_
    · simp only [zeroone_Tighten.l2]; rw [if_pos (by omega), if_pos (by omega), if_pos (by omega), wrap_nat (by omega)]
    · refine Ev.bind (force_ev _ fx hm.2 (by omega) (by omega)) ?_
      rw [drop_rdT hlt] at h1 ⊢
      cases hq : forceS (rd_T45 rs (i : Int)) fx fx.length 0 with
      | some z =>
        refine Ev.iteP rfl ?_
        have e : firstS (rd_T45 rs (i : Int) :: rs.drop (i + 1)) fx = some z := by unfold firstS; rw [hq]
        rw [e]
        exact h1 z e
      | none =>
        refine Ev.iteN (by simp) ?_
        have e : firstS (rd_T45 rs (i : Int) :: rs.drop (i + 1)) fx = firstS (rs.drop (i + 1)) fx := by conv => lhs; unfold firstS; rw [hq]
        rw [e] at h1 ⊢
        exact ih (i + 1) (by omega) (by omega) h1
theorem tight_l0 (v fx0 : List Int) (rs : List S45) (hn : v.length ≤ 24) (hrs : RowsIn v.length rs) (hr : rs.length ≤ 60) :
    ∀ (n : Nat) (fx : List Int), fx.length = v.length → freeS fx = n → Ev (fun k => zeroone_Tighten.l0 k fx true v rs fx0) (outS v rs (tightenS rs n fx)) := by
  intro n
  induction n with
  | zero =>
    intro fx hf hfree
    have hnone : firstS rs fx = none := by
      cases h : firstS rs fx with
      | none => rfl
      | some z => have := (first_free h).2; omega
    refine Ev.step (f := fun k => zeroone_Tighten.l1 k fx false rs (rs.length : Int) 0 v rs fx0) (fun k => by simp only [zeroone_Tighten.l0]; rfl) ?_
    have h3 := tight_l3 v fx rs hn hrs hr _ 0 rfl (Nat.zero_le _)
    have h0 : Ev (fun k => zeroone_Tighten.l0 k fx false v rs fx0) (v, rs, fx, 0) := by
      refine Ev.step (f := fun k => zeroone_Tighten.l3 k rs (rs.length : Int) 0 v [] fx) (fun k => ?_) (by simpa using h3)
      simp only [zeroone_Tighten.l0]; rw [if_neg (by decide), clone_some _ hn, Option.bind_some]
    have h2 := tight_l2 v fx fx0 rs hn hf hrs hr _ (fun _ => (v, rs, fx, 0)) h0 _ 0 rfl (Nat.zero_le _) (fun fx' h => by rw [List.drop_zero, hnone] at h; cases h)
    rw [List.drop_zero, hnone] at h2
    have h1 := tight_l1 v fx fx0 rs hn hf hrs hr _ (fun _ => h2) _ 0 rfl (Nat.zero_le _) (by simp)
    have e : outS v rs (tightenS rs 0 fx) = (if rs.all (fun r => satS r fx) = true then (v, rs, fx, 0) else ([], [], [], 14)) := by
      unfold tightenS; split <;> rfl
    rw [e]; exact h1
  | succ n ih =>
    intro fx hf hfree
    refine Ev.step (f := fun k => zeroone_Tighten.l1 k fx false rs (rs.length : Int) 0 v rs fx0) (fun k => by simp only [zeroone_Tighten.l0]; rfl) ?_
    have h3 := tight_l3 v fx rs hn hrs hr _ 0 rfl (Nat.zero_le _)
    have h0 : Ev (fun k => zeroone_Tighten.l0 k fx false v rs fx0) (v, rs, fx, 0) := by
      refine Ev.step (f := fun k => zeroone_Tighten.l3 k rs (rs.length : Int) 0 v [] fx) (fun k => ?_) (by simpa using h3)
      simp only [zeroone_Tighten.l0]; rw [if_neg (by decide), clone_some _ hn, Option.bind_some]
    have h2 := tight_l2 v fx fx0 rs hn hf hrs hr _ (fun fx' => outS v rs (tightenS rs n fx')) h0 _ 0 rfl (Nat.zero_le _) (fun fx' h => by
      rw [List.drop_zero] at h
      have h4 := first_free h
      exact ih fx' (by omega) (by omega))
    rw [List.drop_zero] at h2
    have h1 := tight_l1 v fx fx0 rs hn hf hrs hr _ (fun _ => h2) _ 0 rfl (Nat.zero_le _) (by simp)
    have e : outS v rs (tightenS rs (n + 1) fx) = (if rs.all (fun r => satS r fx) = true then (match firstS rs fx with | some fx' => outS v rs (tightenS rs n fx') | none => (v, rs, fx, 0)) else ([], [], [], 14)) := by
      show outS v rs (if rs.all (fun r => satS r fx) = true then (match firstS rs fx with | some fx' => tightenS rs n fx' | none => some fx) else none) = _
      split
      · cases firstS rs fx <;> rfl
      · rfl
    rw [e]; exact h1
def tightS (v : List Int) (rs : List S45) (fx : List Int) : List Int × List S45 × List Int × Int := if validS v rs fx = 0 then outS v rs (tightenS rs (freeS fx) fx) else ([], [], [], validS v rs fx)
theorem tight_ev (v : List Int) (rs : List S45) (fx : List Int) (hcs : ∀ r ∈ rs, r.f0.length < 9223372036854775807) : Ev (fun k => zeroone_Tighten.f k v rs fx) (tightS v rs fx) := by
  unfold zeroone_Tighten.f tightS
  refine Ev.bind (valid_ev v rs fx hcs) ?_
  by_cases h : validS v rs fx = 0
  · rw [if_pos h]
    have hv := (validS_iff v rs fx).1 h
    refine Ev.iteP h (Ev.bindS (clone_some fx (by rw [hv.fixed]; exact hv.vars)) ?_)
    exact tight_l0 v fx rs hv.vars hv.rowsIn hv.rows _ fx hv.fixed rfl
  · rw [if_neg h]
    exact Ev.iteN h (Ev.now _)
end Go.Proofs.Ythicnegcpafkkaa.Spec
