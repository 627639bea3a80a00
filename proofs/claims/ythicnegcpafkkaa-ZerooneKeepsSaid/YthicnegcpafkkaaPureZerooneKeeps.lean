/- Fixing variables by single constraints changes neither the given fixed variables nor the solution: the plain statement. -/
import Derived.Test.YthicnegcpafkkaaAllx45
import Derived.Test.YthicnegcpafkkaaSolveWalk
import Derived.Test.YthicnegcpafkkaaScan
import Derived.Test.YthicnegcpafkkaaTight
set_option linter.unusedVariables false
namespace Go.Proofs.Ythicnegcpafkkaa.Pure
open Go.RowKit Go.Proofs.YthicnegcpafkkaaW.PrintWords Go.Proofs.Ythicnegcpafkkaa.All Go.Proofs.Ythicnegcpafkkaa.Opener Go.Proofs.Ythicnegcpafkkaa.Spec Go.Proofs.Ythicnegcpafkkaa.Search
theorem feas_sat {v : List Int} {rs : List S45} {fx y : List Int} (h : ValidP v rs fx) (hy : y.all isBit = true) (hl : y.length = v.length) (hf : fixS fx y = true) {r : S45} (hr : r ∈ rs) (hs : rowS y r = true) : satS r fx = true := by
  have hb := fix_bounds r.f0 fx y (by rw [(h.row hr).1]; exact hl) (by rw [(h.row hr).1]; exact h.fixed) hy hf h.okF
  unfold rowS at hs
  unfold satS
  simp only [Bool.and_eq_true, decide_eq_true_eq] at hs ⊢
  omega
theorem fix_set : ∀ (f y : List Int) (j : Nat) (c : Int), j < f.length → y.length = f.length → rd f (j : Int) = -1 → c ≠ -1 → fixS (f.set j c) y = (fixS f y && (c == rd y (j : Int)))
  | [], y, j, c, h, _, _, _ => by simp at h
  | f :: fs, [], j, c, _, h, _, _ => by simp at h
  | f :: fs, b :: bs, 0, c, _, _, h, hc => by
    have hf : f = -1 := h
    subst hf
    have h1 : (c == (-1 : Int)) = false := by simpa using hc
    simp only [List.set_cons_zero, fixS, h1, Bool.false_or]
    have h2 : rd (b :: bs) ((0 : Nat) : Int) = b := rfl
    rw [h2, Bool.and_comm]
    rfl
  | f :: fs, b :: bs, j + 1, c, h1, h2, h3, hc => by
    have e : ∀ (l : List Int) (a : Int), rd (a :: l) ((j + 1 : Nat) : Int) = rd l (j : Int) := fun l a => by rw [rd_nat, rd_nat]; rfl
    rw [e] at h3
    have ih := fix_set fs bs j c (by simpa using h1) (by simpa using h2) h3 hc
    simp only [List.set_cons_succ, fixS]
    rw [ih, e, Bool.and_assoc]
theorem rd_set_ne (f : List Int) (j i : Nat) (c : Int) (h : i ≠ j) : rd (f.set j c) (i : Int) = rd f (i : Int) := by
  rw [rd_nat, rd_nat, List.getD_eq_getElem?_getD, List.getD_eq_getElem?_getD, List.getElem?_set_ne (fun e => h e.symm)]
/-- One variable more is fixed: as feasible as before. -/
theorem force_feas {v : List Int} {rs : List S45} {fx y : List Int} (h : ValidP v rs fx) (hy : y.all isBit = true) (hl : y.length = v.length) {r : S45} (hr : r ∈ rs) {j : Nat} {c : Int} (hj : j < fx.length) (hf : rd fx (j : Int) = -1) (hc : c = 0 ∨ c = 1)
    (hs : satS r (fx.set j (1 - c)) = false) (hV : ValidP v rs (fx.set j (1 - c))) : feasP rs (fx.set j c) y = feasP rs fx y := by
  have hlf : y.length = fx.length := by rw [hl, h.fixed]
  unfold feasP
  rw [fix_set fx y j c hj hlf hf (by omega)]
  cases h1 : fixS fx y with
  | false => rfl
  | true =>
    cases h2 : rs.all (rowS y) with
    | false => simp
    | true =>
      have hb : rd y (j : Int) = 0 ∨ rd y (j : Int) = 1 := isBit_iff.1 (all_rd hy (by omega))
      have hn : rd y (j : Int) ≠ 1 - c := by
        intro e
        have h3 : fixS (fx.set j (1 - c)) y = true := by
          rw [fix_set fx y j (1 - c) hj hlf hf (by omega), h1, e]; simp
        have h4 := feas_sat hV hy hl h3 hr (List.all_eq_true.1 h2 r hr)
        rw [hs] at h4; cases h4
      have e : rd y (j : Int) = c := by omega
      rw [e]; simp
theorem valid_set {v : List Int} {rs : List S45} {fx : List Int} (h : ValidP v rs fx) {j : Nat} {c : Int} (hc : c = 0 ∨ c = 1) : ValidP v rs (fx.set j c) :=
  ⟨h.vars, h.rows, by rw [List.length_set]; exact h.fixed, h.coefs, h.okV, by
    have h1 := h.okF
    rw [List.all_eq_true] at h1 ⊢
    intro y hy
    rcases List.mem_or_eq_of_mem_set hy with q | q
    · exact h1 y q
    · rw [q]; rcases hc with e | e <;> rw [e] <;> rfl, h.okR⟩
/-- What Tighten leaves. -/
structure Kept (v : List Int) (rs : List S45) (fx fx' : List Int) : Prop where
  valid : ValidP v rs fx'
  feas : ∀ y : List Int, y.all isBit = true → y.length = v.length → feasP rs fx' y = feasP rs fx y
  same : ∀ i : Nat, i < fx.length → rd fx (i : Int) ≠ -1 → rd fx' (i : Int) = rd fx (i : Int)
theorem tighten_keeps {v : List Int} {rs : List S45} : ∀ (n : Nat) (fx : List Int), ValidP v rs fx → match tightenS rs n fx with
    | some fx' => Kept v rs fx fx'
    | none => ∀ y : List Int, y.all isBit = true → y.length = v.length → feasP rs fx y = false := by
  have bad : ∀ fx, ValidP v rs fx → ¬ (rs.all (fun r => satS r fx) = true) → ∀ y : List Int, y.all isBit = true → y.length = v.length → feasP rs fx y = false := by
    intro fx h hs y hy hl
    cases hf : feasP rs fx y with
    | false => rfl
    | true =>
      unfold feasP at hf
      rw [Bool.and_eq_true] at hf
      refine absurd ?_ hs
      rw [List.all_eq_true]
      exact fun r hr => feas_sat h hy hl hf.1 hr (List.all_eq_true.1 hf.2 r hr)
  intro n
  induction n with
  | zero =>
    intro fx h
    unfold tightenS
    by_cases hs : rs.all (fun r => satS r fx) = true
    · rw [if_pos hs]; exact ⟨h, fun y _ _ => rfl, fun i _ _ => rfl⟩
    · rw [if_neg hs]; exact bad fx h hs
  | succ n ih =>
    intro fx h
    show match (if rs.all (fun r => satS r fx) = true then (match firstS rs fx with | some fx' => tightenS rs n fx' | none => some fx) else none) with
      | some fx' => Kept v rs fx fx'
      | none => ∀ y : List Int, y.all isBit = true → y.length = v.length → feasP rs fx y = false
    by_cases hs : rs.all (fun r => satS r fx) = true
    · rw [if_pos hs]
      cases hq : firstS rs fx with
      | none => exact ⟨h, fun y _ _ => rfl, fun i _ _ => rfl⟩
      | some fx1 =>
        obtain ⟨r, hr, j, c, hj, hf, hc, rfl, hno⟩ := first_form hq
        have hV := valid_set (j := j) (c := 1 - c) h (by omega)
        have hfe : ∀ y : List Int, y.all isBit = true → y.length = v.length → feasP rs (fx.set j c) y = feasP rs fx y := fun y hy hl => force_feas h hy hl hr hj hf hc hno hV
        have hi := ih (fx.set j c) (valid_set h hc)
        show match tightenS rs n (fx.set j c) with
          | some fx' => Kept v rs fx fx'
          | none => ∀ y : List Int, y.all isBit = true → y.length = v.length → feasP rs fx y = false
        cases hz : tightenS rs n (fx.set j c) with
        | none =>
          rw [hz] at hi
          intro y hy hl
          rw [← hfe y hy hl]
          exact hi y hy hl
        | some z =>
          rw [hz] at hi
          refine ⟨hi.valid, fun y hy hl => (hi.feas y hy hl).trans (hfe y hy hl), fun i hlt hne => ?_⟩
          have hij : i ≠ j := fun e => hne (by rw [e]; exact hf)
          have h1 := hi.same i (by rw [List.length_set]; exact hlt) (by rw [rd_set_ne fx j i c hij]; exact hne)
          rw [h1, rd_set_ne fx j i c hij]
    · rw [if_neg hs]; exact bad fx h hs
theorem kept_top {v : List Int} {rs : List S45} {fx fx' : List Int} (h : Kept v rs fx fx') : topS v rs fx' = topS v rs fx := by
  unfold topS
  refine dfs_congr v.length [] none fun y hy => ?_
  obtain ⟨a, b⟩ := ext_all_bits.1 hy
  exact h.feas y a b
theorem fix_rd : ∀ (f y : List Int) (i : Nat), i < f.length → i < y.length → fixS f y = true → rd f (i : Int) ≠ -1 → rd y (i : Int) = rd f (i : Int)
  | [], y, i, h, _, _, _ => by simp at h
  | f :: fs, [], i, _, h, _, _ => by simp at h
  | f :: fs, b :: bs, 0, _, _, h, hne => by
    have h1 : f ≠ -1 := hne
    simp only [fixS, Bool.and_eq_true, Bool.or_eq_true, beq_iff_eq] at h
    show b = f
    rcases h.1 with e | e
    · exact absurd e h1
    · exact e.symm
  | f :: fs, b :: bs, i + 1, h1, h2, h, hne => by
    have e : ∀ (l : List Int) (a : Int), rd (a :: l) ((i + 1 : Nat) : Int) = rd l (i : Int) := fun l a => by rw [rd_nat, rd_nat]; rfl
    rw [e] at hne
    rw [e, e]
    simp only [fixS, Bool.and_eq_true] at h
    exact fix_rd fs bs i (by simpa using h1) (by simpa using h2) h.2 hne
theorem keeps_l0 {v : List Int} {rs : List S45} {fx fx' : List Int} (h : ValidP v rs fx) (hk : Kept v rs fx fx') (x : List Int) (val e : Int) (hx : e = 0 → ∃ p, topS v rs fx = some p ∧ p.1 = x) (q : Bool)
    (hq : Ev (fun K => examboardlaw34_ZerooneKeeps.l0 K x val e (v.length : Int) v rs fx v rs fx') q) : ∀ (d i : Nat), v.length - i = d → i ≤ v.length → Ev (fun K => examboardlaw34_ZerooneKeeps.l0 K x val e (i : Int) v rs fx v rs fx') q
  | 0, i, hd, hi => by
    have e1 : i = v.length := by omega
    rw [e1]; exact hq
  | d + 1, i, hd, hi => by
    have hlt : i < v.length := by omega
    have hf1 := h.fixed
    have hf2 := hk.valid.fixed
    have hvs := h.vars
    have ih := keeps_l0 h hk x val e hx q hq d (i + 1) (by omega) (by omega)
    have hbit : e = 0 → rd fx' (i : Int) ≠ -1 → (i : Int) < (x.length : Int) ∧ rd x (i : Int) = rd fx' (i : Int) := by
      intro he hne
      obtain ⟨p, hp, rfl⟩ := hx he
      rw [← kept_top hk] at hp
      obtain ⟨a1, a2, a3, a4⟩ := top_some hp
      refine ⟨by omega, ?_⟩
      unfold feasP at a3
      rw [Bool.and_eq_true] at a3
      exact fix_rd fx' p.1 i (by omega) (by omega) a3.1 hne
    refine Ev.up ?_
    simp only [examboardlaw34_ZerooneKeeps.l0]
    rw [wrap_nat (by omega)]
    refine Ev.iteP (by omega) (Ev.iteP (by omega) ?_)
    by_cases h1 : rd fx (i : Int) = -1
    · refine Ev.iteP h1 ?_
      by_cases he : e = 0
      · refine Ev.iteP he (Ev.iteP (by omega) ?_)
        by_cases h2 : rd fx' (i : Int) = -1
        · exact Ev.iteP h2 ih
        · obtain ⟨b1, b2⟩ := hbit he h2
          exact Ev.iteN h2 (Ev.iteN (by omega) (Ev.iteP b1 (Ev.iteP b2 ih)))
      · exact Ev.iteN he ih
    · have h3 := hk.same i (by omega) h1
      refine Ev.iteN h1 (Ev.iteP (by omega) (Ev.iteP h3 ?_))
      by_cases he : e = 0
      · have h2 : rd fx' (i : Int) ≠ -1 := by rw [h3]; exact h1
        obtain ⟨b1, b2⟩ := hbit he h2
        exact Ev.iteP he (Ev.iteN h2 (Ev.iteN (by omega) (Ev.iteP b1 (Ev.iteP b2 ih))))
      · exact Ev.iteN he ih
theorem ZerooneKeeps (v : List Int) (rs : List S45) (fx : List Int) (h : ProblemFits (v, rs, fx)) : ∃ k, examboardlaw34_ZerooneKeeps.f k v rs fx = some true := by
  have hcs := coefs_fit h.2.1
  refine Ev.rounds (g := fun k => examboardlaw34_ZerooneKeeps.f k v rs fx) ?_
  unfold examboardlaw34_ZerooneKeeps.f
  by_cases hn : (v.length : Int) > 10
  · exact Ev.iteP hn (Ev.now _)
  · have hs : ∀ fx, zeroone_Solve.f v rs fx = some (solveS v rs fx) := fun fx => solveF_some hcs
    refine Ev.iteN hn (Ev.bindS (hs fx) (Ev.bind (tight_ev v rs fx hcs) ?_))
    unfold tightS
    by_cases hv : validS v rs fx = 0
    · have hP := (validS_iff v rs fx).1 hv
      rw [if_pos hv, solve_valid hP]
      have hkeep := tighten_keeps (rs := rs) (freeS fx) fx hP
      cases hz : tightenS rs (freeS fx) fx with
      | none =>
        rw [hz] at hkeep
        have ht : topS v rs fx = none := by
          cases hp : topS v rs fx with
          | none => rfl
          | some p =>
            obtain ⟨a1, a2, a3, a4⟩ := top_some hp
            rw [hkeep p.1 a1 a2] at a3; cases a3
        rw [ht]
        exact Ev.iteN (show ¬ (14 : Int) = 0 by decide) (Ev.now _)
      | some z =>
        rw [hz] at hkeep
        have hk : Kept v rs fx z := hkeep
        have hlz : z.length = fx.length := by rw [hk.valid.fixed, hP.fixed]
        refine Ev.iteP rfl (Ev.bind (ints_self v (by have := hP.vars; omega)) (Ev.iteP rfl (Ev.iteP (by simp only [outS]; omega) ?_)))
        have e1 : (((outS v rs (some z)).2.1.length : Int) != (rs.length : Int)) = false := by simp [outS]
        rw [e1]
        refine Ev.up ?_
        simp only [examboardlaw34_ZerooneKeeps.j0]
        refine Ev.iteN (by decide) ?_
        have hfin : Ev (fun K => examboardlaw34_ZerooneKeeps.l0 K (bestS (topS v rs fx)).1 (bestS (topS v rs fx)).2.1 (bestS (topS v rs fx)).2.2 (v.length : Int) v rs fx v rs z) true := by
          refine Ev.up ?_
          simp only [examboardlaw34_ZerooneKeeps.l0]
          refine Ev.iteN (by have := hP.fixed; omega) (Ev.bindS (hs z) ?_)
          rw [solve_valid hk.valid, kept_top hk]
          cases hp : topS v rs fx with
          | none => exact Ev.iteN (by decide) (Ev.iteP rfl (Ev.iteP rfl (Ev.bind (ints_self [] (by decide)) (Ev.now _))))
          | some p =>
            obtain ⟨a1, a2, a3, a4⟩ := top_some hp
            have hfe := feasible_ev v rs fx p.1 hcs (by have := hP.vars; omega)
            rw [feas_valid hP a1 a2, a3] at hfe
            exact Ev.iteP rfl (Ev.bind hfe (Ev.iteP rfl (Ev.iteP rfl (Ev.iteP rfl (Ev.bind (ints_self p.1 (by have := hP.vars; omega)) (Ev.now _))))))
        exact keeps_l0 hP hk _ _ _ (fun he => by
          cases hp : topS v rs fx with
          | none => rw [hp] at he; exact absurd he (by decide)
          | some p => exact ⟨p, rfl, rfl⟩) true hfin v.length 0 rfl (Nat.zero_le _)
    · rw [if_neg hv, solve_bad hv]
      refine Ev.iteN hv ?_
      have e : (validS v rs fx == validS v rs fx) = true := beq_self_eq_true _
      rw [e]
      exact Ev.now _
end Go.Proofs.Ythicnegcpafkkaa.Pure
