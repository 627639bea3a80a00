/- The reference's Tighten answers as the program's: a row that can't be satisfied stays so, whatever is fixed. -/
import Derived.Test.YthicnegcpafkkaaAllx25
import Derived.Test.YthicnegcpafkkaaAllx27
import Derived.Test.YthicnegcpafkkaaAllx28
import Derived.Test.YthicnegcpafkkaaTight
set_option linter.unusedVariables false
namespace Go.Proofs.Ythicnegcpafkkaa.Spec
open Go.RowKit Go.Proofs.YthicnegcpafkkaaW.PrintWords Go.Proofs.YthicnegcpafkkaaW.PrintMore Go.Proofs.Ythicnegcpafkkaa.All Go.Proofs.Ythicnegcpafkkaa.Opener

theorem rd_cons_succ (a : Int) (l : List Int) (i : Nat) : rd (a :: l) ((i + 1 : Nat) : Int) = rd l (i : Int) := by rw [rd_nat, rd_nat]; rfl
theorem lo_set {v : Int} (hv : v = 0 ∨ v = 1) : ∀ (cs fx : List Int) (j : Nat), j < fx.length → rd fx (j : Int) = -1 → loS cs fx ≤ loS cs (fx.set j v) ∧ hiS cs (fx.set j v) ≤ hiS cs fx
  | [], fx, j, _, _ => by cases fx <;> simp [loS, hiS]
  | c :: cs, [], j, h, _ => by simp at h
  | c :: cs, f :: fx, 0, _, h => by
    have hf : f = -1 := by simpa [rd] using h
    subst hf
    have e1 : tlo c (-1) ≤ tlo c v ∧ thi c v ≤ thi c (-1) := by
      rcases hv with rfl | rfl
      · unfold tlo thi; simp; constructor <;> split <;> omega
      · unfold tlo thi; simp; constructor <;> split <;> omega
    simp only [List.set_cons_zero, loS, hiS]
    omega
  | c :: cs, f :: fx, j + 1, h, h1 => by
    rw [rd_cons_succ] at h1
    have := lo_set hv cs fx j (by simpa using h) h1
    simp only [List.set_cons_succ, loS, hiS]
    omega
theorem sat_set {r : S45} {fx : List Int} {j : Nat} {v : Int} (hv : v = 0 ∨ v = 1) (hj : j < fx.length) (h : rd fx (j : Int) = -1) (hs : satS r fx = false) : satS r (fx.set j v) = false := by
  have h1 := lo_set hv r.f0 fx j hj h
  rw [Bool.eq_false_iff] at hs ⊢
  intro h2
  apply hs
  unfold satS at h2 ⊢
  simp only [Bool.and_eq_true, decide_eq_true_eq] at h2 ⊢
  omega
theorem tighten_unsat {rs : List S45} {fx : List Int} {r : S45} (hr : r ∈ rs) (h : satS r fx = false) (n : Nat) : tightenS rs n fx = none := by
  have h1 : ¬ rs.all (fun r => satS r fx) = true := fun h2 => by have := List.all_eq_true.1 h2 r hr; rw [h] at this; exact absurd this (by decide)
  cases n <;> · simp only [tightenS]; rw [if_neg h1]

/-- What one step of the reference finds in a row, from variable i on: nothing; a contradiction; or the fixed variables. -/
inductive Found where
  | nothing | clash | fix (fx : List Int)
def rowStep (r : S45) (fx : List Int) : Nat → Nat → Found
  | 0, _ => .nothing
  | d + 1, i => if rd fx (i : Int) = -1 then
      (if satS r (fx.set i 0) = true then (if satS r (fx.set i 1) = true then rowStep r fx d (i + 1) else .fix (fx.set i 0)) else (if satS r (fx.set i 1) = true then .fix (fx.set i 1) else .clash))
    else rowStep r fx d (i + 1)
def stepS : List S45 → List Int → Found
  | [], _ => .nothing
  | r :: rs, fx => if satS r fx = true then (match rowStep r fx fx.length 0 with
    | .nothing => stepS rs fx
    | q => q) else .clash
def foundS (fx : List Int) : Found → Bool × Bool × List Int
  | .nothing => (false, true, fx)
  | .clash => (false, false, fx)
  | .fix fx' => (true, true, fx')
theorem step_l1 (rs : List S45) (i : Nat) (hi : i < rs.length) (hr : rs.length ≤ 60) (fx : List Int) (hc : (rd_T45 rs (i : Int)).f0.all okCoef = true) (hn : (rd_T45 rs (i : Int)).f0.length ≤ 24) (hf : fx.length = (rd_T45 rs (i : Int)).f0.length) (q : Bool × Bool × List Int)
    (hq : Ev (fun k => examboardref34_step.l0 k rs fx ((i + 1 : Nat) : Int)) q) :
    ∀ (d j : Nat), fx.length - j = d → j ≤ fx.length → Ev (fun k => examboardref34_step.l1 k rs fx (i : Int) (j : Int)) (match rowStep (rd_T45 rs (i : Int)) fx d j with | .nothing => q | z => foundS fx z) := by
  intro d
  induction d with
  | zero =>
    intro j hd hj
    refine Ev.step (f := fun k => examboardref34_step.l0 k rs fx ((i + 1 : Nat) : Int)) (fun k => ?_) hq
    simp only [examboardref34_step.l1]; rw [if_neg (by omega), wrap_nat (by omega)]
  | succ d ih =>
    intro j hd hj
    have hlt : j < fx.length := by omega
    obtain ⟨r, hrd⟩ : ∃ r, r = rd_T45 rs (i : Int) := ⟨_, rfl⟩
    have ih' := ih (j + 1) (by omega) (by omega)
    rw [← hrd] at hc hn hf ih' ⊢
    by_cases h1 : rd fx (j : Int) = -1
    · have hb : ∀ k, examboardref34_step.l1 (k + 1) rs fx (i : Int) (j : Int) = ((examboardref34_can.f k r.f0 r.f1 r.f2 (fx.set j 0)).bind fun t174 => ((examboardref34_can.f k r.f0 r.f1 r.f2 (fx.set j 1)).bind fun t177 => (if t174 = true then (examboardref34_step.j2 k rs fx (i : Int) (j : Int) t174 t177 false) else (examboardref34_step.j2 k rs fx (i : Int) (j : Int) t174 t177 (!t177))))) := by
        intro k
        simp only [examboardref34_step.l1]
        rw [if_pos (by omega), if_pos (by omega), if_pos h1, Option.bind_some, if_pos (by omega), if_pos (by omega)]
        simp only [Option.bind_some, Int.toNat_natCast, List.set_set, ← hrd]
        have e : fx.set j (-1) = fx := by have := set_back (a := 0) hlt h1; rwa [List.set_set] at this
        rw [e]
      refine Ev.step hb ?_
      refine Ev.bind (can_ev r (fx.set j 0) hc hn (by rw [List.length_set]; exact hf)) (Ev.bind (can_ev r (fx.set j 1) hc hn (by rw [List.length_set]; exact hf)) ?_)
      cases h2 : satS r (fx.set j 0) with
      | true =>
        refine Ev.iteP rfl ?_
        cases h3 : satS r (fx.set j 1) with
        | true =>
          have e : rowStep r fx (d + 1) j = rowStep r fx d (j + 1) := by conv => lhs; unfold rowStep; rw [if_pos h1, if_pos h2, if_pos h3]
          rw [e]
          refine Ev.step (f := fun k => examboardref34_step.l1 k rs fx (i : Int) ((j + 1 : Nat) : Int)) (fun k => ?_) ih'
          simp only [examboardref34_step.j2]; rw [if_neg (by decide), if_pos trivial, if_pos trivial, wrap_nat (by omega)]
        | false =>
          have e : rowStep r fx (d + 1) j = .fix (fx.set j 0) := by unfold rowStep; rw [if_pos h1, if_pos h2, if_neg (by rw [h3]; decide)]
          rw [e]
          refine Ev.step (f := fun _ => some (true, true, fx.set j 0)) (fun k => ?_) (Ev.now _)
          simp only [examboardref34_step.j2]; rw [if_neg (by decide), if_pos trivial, if_neg (by decide), if_pos (by omega), if_pos (by omega), Int.toNat_natCast]
      | false =>
        refine Ev.iteN (by decide) ?_
        cases h3 : satS r (fx.set j 1) with
        | true =>
          have e : rowStep r fx (d + 1) j = .fix (fx.set j 1) := by unfold rowStep; rw [if_pos h1, if_neg (by rw [h2]; decide), if_pos h3]
          rw [e]
          refine Ev.step (f := fun _ => some (true, true, fx.set j 1)) (fun k => ?_) (Ev.now _)
          simp only [examboardref34_step.j2, Bool.not_true]; rw [if_neg (by decide), if_neg (by decide), if_pos (by omega), if_pos (by omega), Int.toNat_natCast]
        | false =>
          have e : rowStep r fx (d + 1) j = .clash := by unfold rowStep; rw [if_pos h1, if_neg (by rw [h2]; decide), if_neg (by rw [h3]; decide)]
          rw [e]
          refine Ev.step (f := fun _ => some (false, false, fx)) (fun k => ?_) (Ev.now _)
          simp only [examboardref34_step.j2, Bool.not_false]; rw [if_pos trivial]
    · have e : rowStep r fx (d + 1) j = rowStep r fx d (j + 1) := by conv => lhs; unfold rowStep; rw [if_neg h1]
      rw [e]
      refine Ev.step (f := fun k => examboardref34_step.l1 k rs fx (i : Int) ((j + 1 : Nat) : Int)) (fun k => ?_) ih'
      simp only [examboardref34_step.l1]; rw [if_pos (by omega), if_pos (by omega), if_neg h1, wrap_nat (by omega)]
theorem step_l0 (n : Nat) (rs : List S45) (fx : List Int) (hn : n ≤ 24) (hf : fx.length = n) (hrs : RowsIn n rs) (hr : rs.length ≤ 60) :
    ∀ (d i : Nat), rs.length - i = d → i ≤ rs.length → Ev (fun k => examboardref34_step.l0 k rs fx (i : Int)) (foundS fx (stepS (rs.drop i) fx)) := by
  intro d
  induction d with
  | zero =>
    intro i hd hi
    rw [List.drop_eq_nil_of_le (by omega)]
    refine Ev.step (f := fun _ => some (false, true, fx)) (fun k => ?_) (Ev.now _)
    simp only [examboardref34_step.l0]; rw [if_neg (by omega)]
  | succ d ih =>
    intro i hd hi
    have hlt : i < rs.length := by omega
    have hm := hrs _ (rd_mem hlt)
    rw [drop_rdT hlt]
    refine Ev.step (f := fun k => (examboardref34_can.f k (rd_T45 rs (i : Int)).f0 (rd_T45 rs (i : Int)).f1 (rd_T45 rs (i : Int)).f2 fx).bind fun t170 => (if t170 = true then (examboardref34_step.l1 k rs fx (i : Int) 0) else (some (false, false, fx)))) (fun k => ?_) ?_
    · simp only [examboardref34_step.l0]; rw [if_pos (by omega), if_pos (by omega)]
    · refine Ev.bind (can_ev _ fx hm.2 (by omega) (by omega)) ?_
      by_cases h1 : satS (rd_T45 rs (i : Int)) fx = true
      · refine Ev.iteP h1 ?_
        have h2 := step_l1 rs i hlt hr fx hm.2 (by omega) (by omega) _ (ih (i + 1) (by omega) (by omega)) fx.length 0 rfl (Nat.zero_le _)
        have e : foundS fx (stepS (rd_T45 rs (i : Int) :: rs.drop (i + 1)) fx) = (match rowStep (rd_T45 rs (i : Int)) fx fx.length 0 with | .nothing => foundS fx (stepS (rs.drop (i + 1)) fx) | z => foundS fx z) := by
          conv => lhs; unfold stepS
          rw [if_pos h1]
          cases rowStep (rd_T45 rs (i : Int)) fx fx.length 0 <;> rfl
        rw [e]; exact h2
      · refine Ev.iteN h1 ?_
        have e : stepS (rd_T45 rs (i : Int) :: rs.drop (i + 1)) fx = .clash := by unfold stepS; rw [if_neg h1]
        rw [e]; exact Ev.now _
theorem step_ev (n : Nat) (rs : List S45) (fx : List Int) (hn : n ≤ 24) (hf : fx.length = n) (hrs : RowsIn n rs) (hr : rs.length ≤ 60) : Ev (fun k => examboardref34_step.f k rs fx) (foundS fx (stepS rs fx)) := by
  have h := step_l0 n rs fx hn hf hrs hr _ 0 rfl (Nat.zero_le _)
  rw [List.drop_zero] at h
  exact h

/-! ### one step, told by the program's words -/
theorem rowStep_force (r : S45) (fx : List Int) : ∀ (d i : Nat), i + d ≤ fx.length →
    (rowStep r fx d i = .nothing ∧ forceS r fx d i = none) ∨ (∃ z, rowStep r fx d i = .fix z ∧ forceS r fx d i = some z) ∨ (rowStep r fx d i = .clash ∧ ∃ z, forceS r fx d i = some z ∧ satS r z = false)
  | 0, i, _ => .inl ⟨rfl, rfl⟩
  | d + 1, i, h => by
    unfold rowStep forceS
    by_cases h1 : rd fx (i : Int) = -1
    · rw [if_pos h1, if_pos h1]
      cases h2 : satS r (fx.set i 0) <;> cases h3 : satS r (fx.set i 1)
      · exact .inr (.inr ⟨by simp, _, by simp, h3⟩)
      · exact .inr (.inl ⟨fx.set i 1, by simp, by simp⟩)
      · exact .inr (.inl ⟨fx.set i 0, by simp, by simp⟩)
      · simpa using rowStep_force r fx d (i + 1) (by omega)
    · rw [if_neg h1, if_neg h1]
      exact rowStep_force r fx d (i + 1) (by omega)
theorem rowStep_form (r : S45) (fx : List Int) : ∀ (d i : Nat), i + d ≤ fx.length → ∀ z, rowStep r fx d i = .fix z → ∃ j v, j < fx.length ∧ rd fx (j : Int) = -1 ∧ (v = 0 ∨ v = 1) ∧ z = fx.set j v := by
  intro d i h z hz
  rcases rowStep_force r fx d i h with ⟨h1, _⟩ | ⟨z', h1, h2⟩ | ⟨h1, _⟩
  · rw [h1] at hz; cases hz
  · rw [h1] at hz; cases hz
    obtain ⟨j, v, a, b, c, e, _⟩ := force_form d i h h2
    exact ⟨j, v, a, b, c, e⟩
  · rw [h1] at hz; cases hz
theorem stepS_form {fx : List Int} : ∀ {rs : List S45} {z : List Int}, stepS rs fx = .fix z → ∃ j v, j < fx.length ∧ rd fx (j : Int) = -1 ∧ (v = 0 ∨ v = 1) ∧ z = fx.set j v
  | [], z, h => by simp [stepS] at h
  | r :: rs, z, h => by
    unfold stepS at h
    by_cases h1 : satS r fx = true
    · rw [if_pos h1] at h
      cases hq : rowStep r fx fx.length 0 with
      | nothing => rw [hq] at h; exact stepS_form h
      | clash => rw [hq] at h; cases h
      | fix z' =>
        rw [hq] at h
        cases h
        exact rowStep_form r fx fx.length 0 (by omega) _ hq
    · rw [if_neg h1] at h; cases h
theorem stepS_unsat {fx : List Int} : ∀ {rs : List S45}, (∃ r ∈ rs, satS r fx = false) → stepS rs fx ≠ .nothing
  | [], h => by obtain ⟨r, hr, _⟩ := h; cases hr
  | r :: rs, ⟨r', hr', h⟩ => by
    unfold stepS
    by_cases h1 : satS r fx = true
    · rw [if_pos h1]
      cases hq : rowStep r fx fx.length 0 with
      | nothing =>
        refine stepS_unsat ⟨r', ?_, h⟩
        rcases List.mem_cons.1 hr' with rfl | hr'
        · rw [h1] at h; cases h
        · exact hr'
      | clash => simp
      | fix z => simp
    · rw [if_neg h1]; simp
theorem stepS_first {fx : List Int} : ∀ {rs : List S45}, rs.all (fun r => satS r fx) = true →
    (stepS rs fx = .nothing ∧ firstS rs fx = none) ∨ (∃ z, stepS rs fx = .fix z ∧ firstS rs fx = some z) ∨ (stepS rs fx = .clash ∧ ∃ z, firstS rs fx = some z ∧ ∃ r ∈ rs, satS r z = false)
  | [], _ => .inl ⟨rfl, rfl⟩
  | r :: rs, h => by
    rw [List.all_cons, Bool.and_eq_true] at h
    unfold stepS firstS
    rw [if_pos h.1]
    rcases rowStep_force r fx fx.length 0 (by omega) with ⟨h1, h2⟩ | ⟨z, h1, h2⟩ | ⟨h1, z, h2, h3⟩
    · rw [h1, h2]
      rcases stepS_first h.2 with h4 | h4 | ⟨h4, z, h5, r', hr', h6⟩
      · exact .inl h4
      · exact .inr (.inl h4)
      · exact .inr (.inr ⟨h4, z, h5, r', List.mem_cons_of_mem _ hr', h6⟩)
    · rw [h1, h2]; exact .inr (.inl ⟨z, rfl, rfl⟩)
    · rw [h1, h2]; exact .inr (.inr ⟨rfl, z, rfl, r, List.mem_cons_self, h3⟩)

/-! ### the reference's Tighten -/
theorem rtight_l1 (v : List Int) (rs : List S45) (hn : v.length ≤ 24) (hrs : RowsIn v.length rs) (hr : rs.length ≤ 60) :
    ∀ (n : Nat) (fx : List Int), fx.length = v.length → freeS fx = n → Ev (fun k => examboardref34_Tighten.l1 k v rs fx) (outS v rs (tightenS rs n fx)) := by
  intro n
  induction n with
  | zero =>
    intro fx hf hfree
    refine Ev.step (f := fun k => (examboardref34_step.f k rs fx).bind fun bt200 => (if bt200.2.1 = true then (if bt200.1 = true then (examboardref34_Tighten.l1 k v rs bt200.2.2) else (some (v, rs, bt200.2.2, 0))) else (some (([] : List Int), ([] : List S45), ([] : List Int), 14)))) (fun k => by simp only [examboardref34_Tighten.l1]) ?_
    refine Ev.bind (step_ev v.length rs fx hn hf hrs hr) ?_
    cases hq : stepS rs fx with
    | fix z =>
      obtain ⟨j, w, h1, h2, h3, rfl⟩ := stepS_form hq
      have := free_set h1 h2 (v := w) (by omega)
      omega
    | nothing =>
      have hs : rs.all (fun r => satS r fx) = true := by
        rw [List.all_eq_true]; intro r hr2
        cases h : satS r fx with
        | true => rfl
        | false => exact absurd hq (stepS_unsat ⟨r, hr2, h⟩)
      have e : tightenS rs 0 fx = some fx := by unfold tightenS; rw [if_pos hs]
      rw [e]; exact Ev.iteP rfl (Ev.iteN (by simp [foundS]) (Ev.now _))
    | clash =>
      have e : tightenS rs 0 fx = none := by
        unfold tightenS
        rw [if_neg ?_]
        intro hs
        rcases stepS_first hs with ⟨h1, _⟩ | ⟨z, h1, _⟩ | ⟨_, z, h2, _⟩
        · rw [hq] at h1; cases h1
        · rw [hq] at h1; cases h1
        · have := (first_free h2).2; omega
      rw [e]; exact Ev.iteN (by simp [foundS]) (Ev.now _)
  | succ n ih =>
    intro fx hf hfree
    refine Ev.step (f := fun k => (examboardref34_step.f k rs fx).bind fun bt200 => (if bt200.2.1 = true then (if bt200.1 = true then (examboardref34_Tighten.l1 k v rs bt200.2.2) else (some (v, rs, bt200.2.2, 0))) else (some (([] : List Int), ([] : List S45), ([] : List Int), 14)))) (fun k => by simp only [examboardref34_Tighten.l1]) ?_
    refine Ev.bind (step_ev v.length rs fx hn hf hrs hr) ?_
    by_cases hs : rs.all (fun r => satS r fx) = true
    · have e0 : tightenS rs (n + 1) fx = (match firstS rs fx with | some fx' => tightenS rs n fx' | none => some fx) := by
        show (if rs.all (fun r => satS r fx) = true then (match firstS rs fx with | some fx' => tightenS rs n fx' | none => some fx) else none) = _
        rw [if_pos hs]
      rcases stepS_first hs with ⟨h1, h2⟩ | ⟨z, h1, h2⟩ | ⟨h1, z, h2, r, hr2, h3⟩
      · rw [e0, h1, h2]; exact Ev.iteP rfl (Ev.iteN (by simp [foundS]) (Ev.now _))
      · rw [e0, h1, h2]
        have h4 := first_free h2
        exact Ev.iteP rfl (Ev.iteP rfl (ih z (by omega) (by omega)))
      · have e1 : tightenS rs (n + 1) fx = none := by rw [e0, h2]; exact tighten_unsat hr2 h3 n
        rw [e1, h1]; exact Ev.iteN (by simp [foundS]) (Ev.now _)
    · obtain ⟨r, hr2, h3⟩ : ∃ r ∈ rs, satS r fx = false := by
        have hs' := Bool.eq_false_iff.mpr hs
        rw [List.all_eq_false] at hs'
        obtain ⟨r, hr2, h⟩ := hs'
        exact ⟨r, hr2, by simpa using h⟩
      rw [tighten_unsat hr2 h3]
      cases hq : stepS rs fx with
      | nothing => exact absurd hq (stepS_unsat ⟨r, hr2, h3⟩)
      | clash => exact Ev.iteN (by simp [foundS]) (Ev.now _)
      | fix z =>
        obtain ⟨j, w, h1, h2, h4, rfl⟩ := stepS_form hq
        have h5 := ih (fx.set j w) (by rw [List.length_set]; exact hf) (by have := free_set h1 h2 (v := w) (by omega); omega)
        rw [tighten_unsat hr2 (sat_set h4 h1 h2 h3)] at h5
        exact Ev.iteP rfl (Ev.iteP rfl h5)
theorem rints_l0 (l : List Int) (hl : l.length ≤ 24) : ∀ (d i : Nat), l.length - i = d → i ≤ l.length → Ev (fun k => examboardref34_ints.l0 k l (l.take i) (i : Int)) l := by
  intro d
  induction d with
  | zero =>
    intro i hd hi
    refine Ev.step (f := fun _ => some l) (fun k => ?_) (Ev.now _)
    simp only [examboardref34_ints.l0]; rw [if_neg (by omega), List.take_of_length_le (by omega)]
  | succ d ih =>
    intro i hd hi
    have hlt : i < l.length := by omega
    refine Ev.step (f := fun k => examboardref34_ints.l0 k l (l.take (i + 1)) ((i + 1 : Nat) : Int)) (fun k => ?_) (ih (i + 1) (by omega) (by omega))
    simp only [examboardref34_ints.l0]; rw [if_pos (by omega), if_pos (by omega), if_pos (by rw [List.length_take]; omega), wrap_nat (by omega)]
    rw [List.take_succ_eq_append_getElem hlt, rd_nat, List.getD_eq_getElem?_getD, List.getElem?_eq_getElem hlt]; rfl
theorem rints_ev (l : List Int) (hl : l.length ≤ 24) : Ev (fun k => examboardref34_ints.f k l) l := by
  have h := rints_l0 l hl _ 0 rfl (Nat.zero_le _)
  rw [List.take_zero] at h
  exact h
theorem rtight_l0 (v fx v0 fx0 : List Int) (rs : List S45) (hn : v.length ≤ 24) (hrs : RowsIn v.length rs) (hr : rs.length ≤ 60) (q : List Int × List S45 × List Int × Int) (hq : Ev (fun k => examboardref34_Tighten.l1 k v rs fx) q) :
    ∀ (d i : Nat), rs.length - i = d → i ≤ rs.length → Ev (fun k => examboardref34_Tighten.l0 k (i : Int) v0 rs fx0 v (rs.take i) fx) q := by
  intro d
  induction d with
  | zero =>
    intro i hd hi
    rw [List.take_of_length_le (by omega)]
    refine Ev.step (f := fun k => examboardref34_Tighten.l1 k v rs fx) (fun k => ?_) hq
    simp only [examboardref34_Tighten.l0]; rw [if_neg (by omega)]
  | succ d ih =>
    intro i hd hi
    have hlt : i < rs.length := by omega
    have hm := hrs _ (rd_mem hlt)
    refine Ev.step (f := fun k => (examboardref34_ints.f k (rd_T45 rs (i : Int)).f0).bind fun t192 => (if (rs.take i).length < 3518437208883 then (examboardref34_Tighten.l0 k ((i + 1 : Nat) : Int) v0 rs fx0 v (rs.take i ++ [(⟨t192, (rd_T45 rs (i : Int)).f1, (rd_T45 rs (i : Int)).f2⟩ : S45)]) fx) else none)) (fun k => ?_) ?_
    · simp only [examboardref34_Tighten.l0]; rw [if_pos (by omega), if_pos (by omega), wrap_nat (by omega)]
    · refine Ev.bind (rints_ev _ (by omega)) (Ev.iteP (by rw [List.length_take]; omega) ?_)
      have e : rs.take i ++ [(⟨(rd_T45 rs (i : Int)).f0, (rd_T45 rs (i : Int)).f1, (rd_T45 rs (i : Int)).f2⟩ : S45)] = rs.take (i + 1) := by
        rw [List.take_succ_eq_append_getElem hlt]
        congr 1
        rw [rd_T45, Int.toNat_natCast, List.getD_eq_getElem?_getD, List.getElem?_eq_getElem hlt]; rfl
      rw [e]
      exact ih (i + 1) (by omega) (by omega)
theorem rtight_ev (v : List Int) (rs : List S45) (fx : List Int) : Ev (fun k => examboardref34_Tighten.f k v rs fx) (tightS v rs fx) := by
  unfold examboardref34_Tighten.f tightS
  refine Ev.bind (rvalid_ev v rs fx) ?_
  by_cases h : validS v rs fx = 0
  · rw [if_pos h]
    have hv := (validS_iff v rs fx).1 h
    refine Ev.iteP h (Ev.bind (rints_ev v hv.vars) (Ev.bind (rints_ev fx (by rw [hv.fixed]; exact hv.vars)) ?_))
    have h1 := rtight_l0 v fx v fx rs hv.vars hv.rowsIn hv.rows _ (rtight_l1 v rs hv.vars hv.rowsIn hv.rows _ fx hv.fixed rfl) _ 0 rfl (Nat.zero_le _)
    simpa using h1
  · rw [if_neg h]
    exact Ev.iteN h (Ev.now _)
end Go.Proofs.Ythicnegcpafkkaa.Spec
