/- What the program's Valid and the reference's Valid answer: the plain validS, for programs whose rows and lists are no longer than memory allows. -/
import Derived.Test.YthicnegcpafkkaaAllx4
import Derived.Test.YthicnegcpafkkaaAllx8
import Derived.Test.YthicnegcpafkkaaSpec
set_option linter.unusedVariables false
namespace Go.Proofs.Ythicnegcpafkkaa.Spec
open Go.RowKit Go.Proofs.YthicnegcpafkkaaW.PrintWords Go.Proofs.Ythicnegcpafkkaa.All Go.Proofs.Ythicnegcpafkkaa.Opener

theorem within_coef (c : Int) : zeroone_within.f c 1000000 = some (okCoef c) := by
  unfold zeroone_within.f okCoef
  rw [wrap_in (by omega) (by omega)]
  split <;> rename_i h
  · rw [decide_eq_true (show (-1000000 : Int) ≤ c by omega)]; rfl
  · rw [decide_eq_false (show ¬ (-1000000 : Int) ≤ c by omega)]; rfl
theorem within_sum (c : Int) : zeroone_within.f c 24000000 = some (okSum c) := by
  unfold zeroone_within.f okSum
  rw [wrap_in (by omega) (by omega)]
  split <;> rename_i h
  · rw [decide_eq_true (show (-24000000 : Int) ≤ c by omega)]; rfl
  · rw [decide_eq_false (show ¬ (-24000000 : Int) ≤ c by omega)]; rfl
theorem rwithin_coef (c : Int) : examboardref34_within.f c 1000000 = some (okCoef c) := within_coef c
theorem rwithin_sum (c : Int) : examboardref34_within.f c 24000000 = some (okSum c) := within_sum c
theorem rwithin_fix (c : Int) : examboardref34_within.f c 1 = some (okFix c) := by
  unfold examboardref34_within.f okFix
  rw [wrap_in (by omega) (by omega)]
  split <;> rename_i h
  · rw [decide_eq_true (show (-1 : Int) ≤ c by omega)]; rfl
  · rw [decide_eq_false (show ¬ (-1 : Int) ≤ c by omega)]; rfl

/-! ### the program's -/
theorem v_l3 (rs : List S45) (n i : Int) (cs : List Int) (hc : cs.length < 9223372036854775807) (q : Int) (hq : Ev (fun k => zeroone_Valid.l2 k rs n (wrap64 (i + 1))) q) :
    ∀ d j, cs.length - j = d → j ≤ cs.length → Ev (fun k => zeroone_Valid.l3 k rs n i cs (cs.length : Int) (j : Int)) (if (cs.drop j).all okCoef = true then q else 3) := by
  intro d
  induction d with
  | zero =>
    intro j hd hj
    rw [List.drop_eq_nil_of_le (by omega)]
    refine Ev.step (f := fun k => zeroone_Valid.l2 k rs n (wrap64 (i + 1))) (fun k => ?_) hq
    simp only [zeroone_Valid.l3]; rw [if_neg (by omega)]
  | succ d ih =>
    intro j hd hj
    have hlt : j < cs.length := by omega
    rw [drop_rd hlt]
    by_cases hb : okCoef (rd cs (j : Int)) = true
    · refine Ev.step (f := fun k => zeroone_Valid.l3 k rs n i cs (cs.length : Int) ((j + 1 : Nat) : Int)) (fun k => ?_) ?_
      · simp only [zeroone_Valid.l3]; rw [if_pos (by omega), if_pos (by omega), if_pos (by omega), within_coef, Option.bind_some, if_pos hb, wrap_nat (by omega)]
      · simpa [List.all_cons, hb] using ih (j + 1) (by omega) (by omega)
    · refine Ev.step (f := fun _ => some 3) (fun k => ?_) ?_
      · simp only [zeroone_Valid.l3]; rw [if_pos (by omega), if_pos (by omega), if_pos (by omega), within_coef, Option.bind_some, if_neg hb]
      · simpa [List.all_cons, hb] using Ev.now (3 : Int)
theorem v_l2 (rs : List S45) (hr : rs.length < 9223372036854775807) (hcs : ∀ r ∈ rs, r.f0.length < 9223372036854775807) :
    ∀ d i, rs.length - i = d → i ≤ rs.length → Ev (fun k => zeroone_Valid.l2 k rs (rs.length : Int) (i : Int)) (if (rs.drop i).all okRow = true then 0 else 3) := by
  intro d
  induction d with
  | zero =>
    intro i hd hi
    rw [List.drop_eq_nil_of_le (by omega)]
    refine Ev.step (f := fun _ => some 0) (fun k => ?_) (Ev.now _)
    simp only [zeroone_Valid.l2]; rw [if_neg (by omega)]
  | succ d ih =>
    intro i hd hi
    have hlt : i < rs.length := by omega
    rw [drop_rdT hlt]
    have hm : rd_T45 rs (i : Int) ∈ rs := by
      rw [rd_T45, Int.toNat_natCast, List.getD_eq_getElem?_getD, List.getElem?_eq_getElem hlt]; exact List.getElem_mem hlt
    have hih := ih (i + 1) (by omega) (by omega)
    rw [← wrap_nat (by omega)] at hih
    have h3 := v_l3 rs (rs.length : Int) (i : Int) (rd_T45 rs (i : Int)).f0 (hcs _ hm) _ hih ((rd_T45 rs (i : Int)).f0.length) 0 rfl (Nat.zero_le _)
    have hb1 : ∀ k b, zeroone_Valid.l2 (k + 1) rs (rs.length : Int) (i : Int) = (if okSum (rd_T45 rs (i : Int)).f1 = true then zeroone_Valid.j4 k rs (rs.length : Int) (i : Int) (!(okSum (rd_T45 rs (i : Int)).f2)) (rd_T45 rs (i : Int)).f0 (rd_T45 rs (i : Int)).f1 (rd_T45 rs (i : Int)).f2 else zeroone_Valid.j4 k rs (rs.length : Int) (i : Int) b (rd_T45 rs (i : Int)).f0 (rd_T45 rs (i : Int)).f1 (rd_T45 rs (i : Int)).f2) ∨ b ≠ true := by
      intro k b
      by_cases hbt : b = true
      · left
        subst hbt
        simp only [zeroone_Valid.l2]; rw [if_pos (by omega), if_pos (by omega), if_pos (by omega), within_sum, Option.bind_some]
        by_cases hs : okSum (rd_T45 rs (i : Int)).f1 = true
        · rw [if_pos hs, if_pos hs, within_sum, Option.bind_some]
        · rw [if_neg hs, if_neg hs]
      · exact .inr hbt
    have hb : ∀ k, zeroone_Valid.l2 (k + 1) rs (rs.length : Int) (i : Int) = zeroone_Valid.j4 k rs (rs.length : Int) (i : Int) (!(okSum (rd_T45 rs (i : Int)).f1 && okSum (rd_T45 rs (i : Int)).f2)) (rd_T45 rs (i : Int)).f0 (rd_T45 rs (i : Int)).f1 (rd_T45 rs (i : Int)).f2 := by
      intro k
      rcases hb1 k true with h | h
      · rw [h]
        cases hs : okSum (rd_T45 rs (i : Int)).f1 <;> simp
      · exact absurd rfl h
    refine Ev.step (f := fun k => zeroone_Valid.j4 k rs (rs.length : Int) (i : Int) (!(okSum (rd_T45 rs (i : Int)).f1 && okSum (rd_T45 rs (i : Int)).f2)) (rd_T45 rs (i : Int)).f0 (rd_T45 rs (i : Int)).f1 (rd_T45 rs (i : Int)).f2) hb ?_
    cases hs : (okSum (rd_T45 rs (i : Int)).f1 && okSum (rd_T45 rs (i : Int)).f2) with
    | false =>
      refine Ev.step (f := fun _ => some 3) (fun k => by simp only [zeroone_Valid.j4]; rfl) ?_
      simpa [List.all_cons, okRow, hs] using Ev.now (3 : Int)
    | true =>
      refine Ev.step (f := fun k => zeroone_Valid.l3 k rs (rs.length : Int) (i : Int) (rd_T45 rs (i : Int)).f0 ((rd_T45 rs (i : Int)).f0.length : Int) 0) (fun k => by simp only [zeroone_Valid.j4]; rfl) ?_
      have h4 : (if (List.drop 0 (rd_T45 rs (i : Int)).f0).all okCoef = true then (if (rs.drop (i + 1)).all okRow = true then (0 : Int) else 3) else 3) = (if (rd_T45 rs (i : Int) :: rs.drop (i + 1)).all okRow = true then 0 else 3) := by
        rw [List.drop_zero, List.all_cons]
        unfold okRow
        rw [hs, Bool.true_and]
        cases h5 : (rd_T45 rs (i : Int)).f0.all okCoef <;> simp
      rw [← h4]
      exact h3
theorem v_l1 (v : List Int) (rs : List S45) (fx : List Int) (hv : v.length ≤ 24) (hf : fx.length = v.length) (q : Int) (hq : Ev (fun k => zeroone_Valid.l2 k rs (rs.length : Int) 0) q) :
    ∀ d i, v.length - i = d → i ≤ v.length → Ev (fun k => zeroone_Valid.l1 k v (v.length : Int) (i : Int) v rs fx) (if ((v.drop i).all okCoef && (fx.drop i).all okFix) = true then q else 3) := by
  intro d
  induction d with
  | zero =>
    intro i hd hi
    rw [List.drop_eq_nil_of_le (by omega), List.drop_eq_nil_of_le (by omega)]
    refine Ev.step (f := fun k => zeroone_Valid.l2 k rs (rs.length : Int) 0) (fun k => ?_) hq
    simp only [zeroone_Valid.l1]; rw [if_neg (by omega)]
  | succ d ih =>
    intro i hd hi
    have hlt : i < v.length := by omega
    have hlf : i < fx.length := by omega
    rw [drop_rd hlt, drop_rd hlf, List.all_cons, List.all_cons]
    by_cases hb : okCoef (rd v (i : Int)) = true
    · by_cases h1 : rd fx (i : Int) < -1
      · refine Ev.step (f := fun _ => some 3) (fun k => ?_) ?_
        · simp only [zeroone_Valid.l1]; rw [if_pos (by omega), if_pos (by omega), if_pos (by omega), within_coef, Option.bind_some, if_pos hb, if_pos (by omega), if_pos h1]
        · have : okFix (rd fx (i : Int)) = false := by unfold okFix; rw [decide_eq_false (show ¬ (-1 : Int) ≤ rd fx (i : Int) by omega)]; rfl
          simpa [this] using Ev.now (3 : Int)
      · by_cases h2 : rd fx (i : Int) > 1
        · refine Ev.step (f := fun _ => some 3) (fun k => ?_) ?_
          · simp only [zeroone_Valid.l1]; rw [if_pos (by omega), if_pos (by omega), if_pos (by omega), within_coef, Option.bind_some, if_pos hb, if_pos (by omega), if_neg h1, if_pos h2]
          · have : okFix (rd fx (i : Int)) = false := by unfold okFix; rw [decide_eq_false (show ¬ rd fx (i : Int) ≤ 1 by omega), Bool.and_false]
            simpa [this] using Ev.now (3 : Int)
        · refine Ev.step (f := fun k => zeroone_Valid.l1 k v (v.length : Int) ((i + 1 : Nat) : Int) v rs fx) (fun k => ?_) ?_
          · simp only [zeroone_Valid.l1]; rw [if_pos (by omega), if_pos (by omega), if_pos (by omega), within_coef, Option.bind_some, if_pos hb, if_pos (by omega), if_neg h1, if_neg h2, wrap_nat (by omega)]
          · have : okFix (rd fx (i : Int)) = true := by unfold okFix; rw [decide_eq_true (show (-1 : Int) ≤ rd fx (i : Int) by omega), decide_eq_true (show rd fx (i : Int) ≤ 1 by omega)]; rfl
            simpa [this, hb] using ih (i + 1) (by omega) (by omega)
    · refine Ev.step (f := fun _ => some 3) (fun k => ?_) ?_
      · simp only [zeroone_Valid.l1]; rw [if_pos (by omega), if_pos (by omega), if_pos (by omega), within_coef, Option.bind_some, if_neg hb]
      · simpa [hb] using Ev.now (3 : Int)
theorem v_l0 (v : List Int) (rs : List S45) (fx : List Int) (hr : rs.length ≤ 60) (q : Int) (hq : Ev (fun k => zeroone_Valid.l1 k v (v.length : Int) 0 v rs fx) q) :
    ∀ d i, rs.length - i = d → i ≤ rs.length → Ev (fun k => zeroone_Valid.l0 k rs (rs.length : Int) (i : Int) v rs fx) (if (rs.drop i).all (fun r => r.f0.length == v.length) = true then q else 1) := by
  intro d
  induction d with
  | zero =>
    intro i hd hi
    rw [List.drop_eq_nil_of_le (by omega)]
    refine Ev.step (f := fun k => zeroone_Valid.l1 k v (v.length : Int) 0 v rs fx) (fun k => ?_) hq
    simp only [zeroone_Valid.l0]; rw [if_neg (by omega)]
  | succ d ih =>
    intro i hd hi
    have hlt : i < rs.length := by omega
    rw [drop_rdT hlt, List.all_cons]
    by_cases hb : (rd_T45 rs (i : Int)).f0.length = v.length
    · refine Ev.step (f := fun k => zeroone_Valid.l0 k rs (rs.length : Int) ((i + 1 : Nat) : Int) v rs fx) (fun k => ?_) ?_
      · simp only [zeroone_Valid.l0]; rw [if_pos (by omega), if_pos (by omega), if_pos (by omega), if_pos (by omega), wrap_nat (by omega)]
      · simpa [hb] using ih (i + 1) (by omega) (by omega)
    · refine Ev.step (f := fun _ => some 1) (fun k => ?_) ?_
      · simp only [zeroone_Valid.l0]; rw [if_pos (by omega), if_pos (by omega), if_pos (by omega), if_neg (by omega)]
      · simpa [hb] using Ev.now (1 : Int)
/-- The program's Valid. -/
theorem valid_ev (v : List Int) (rs : List S45) (fx : List Int) (hcs : ∀ r ∈ rs, r.f0.length < 9223372036854775807) : Ev (fun k => zeroone_Valid.f k v rs fx) (validS v rs fx) := by
  by_cases h : 24 < v.length ∨ 60 < rs.length
  · have hs : validS v rs fx = 5 := by unfold validS; rw [if_pos h]
    rw [hs]
    by_cases h1 : 24 < v.length
    · refine Ev.congr (f := fun k => zeroone_Valid.j0 k true v rs fx) (fun k => by unfold zeroone_Valid.f; rw [if_pos (by omega)]) ?_
      exact Ev.step (f := fun _ => some 5) (fun k => by simp only [zeroone_Valid.j0]; rfl) (Ev.now _)
    · refine Ev.congr (f := fun k => zeroone_Valid.j0 k true v rs fx) (fun k => by unfold zeroone_Valid.f; rw [if_neg (by omega), decide_eq_true (show (rs.length : Int) > 60 by omega)]) ?_
      exact Ev.step (f := fun _ => some 5) (fun k => by simp only [zeroone_Valid.j0]; rfl) (Ev.now _)
  have h1 : v.length ≤ 24 := by omega
  have h2 : rs.length ≤ 60 := by omega
  refine Ev.congr (f := fun k => zeroone_Valid.j0 k false v rs fx) (fun k => by unfold zeroone_Valid.f; rw [if_neg (by omega), decide_eq_false (show ¬ (rs.length : Int) > 60 by omega)]) ?_
  unfold validS
  rw [if_neg h]
  by_cases h3 : fx.length = v.length
  · rw [if_neg (by omega)]
    refine Ev.step (f := fun k => zeroone_Valid.l0 k rs (rs.length : Int) 0 v rs fx) (fun k => by simp only [zeroone_Valid.j0]; rw [if_neg (by decide), if_pos (by omega)]) ?_
    have e2 := v_l2 rs (by omega) hcs rs.length 0 rfl (Nat.zero_le _)
    have e1 := v_l1 v rs fx h1 h3 _ e2 v.length 0 rfl (Nat.zero_le _)
    have e0 := v_l0 v rs fx h2 _ e1 rs.length 0 rfl (Nat.zero_le _)
    simp only [List.drop_zero] at e0
    cases h4 : rs.all (fun r => r.f0.length == v.length) with
    | false => simpa [h4] using e0
    | true =>
      rw [h4] at e0
      simp only [if_true] at e0
      rw [if_neg (by decide)]
      cases h5 : v.all okCoef <;> cases h6 : fx.all okFix <;> simpa [h5, h6] using e0
  · rw [if_pos (by omega)]
    exact Ev.step (f := fun _ => some 1) (fun k => by simp only [zeroone_Valid.j0]; rw [if_neg (by decide), if_neg (by omega)]) (Ev.now _)

/-! ### the reference's -/
theorem r_l3 (v : List Int) (rs : List S45) (fx : List Int) (n : Nat) (hn : n < 9223372036854775807) (i : Nat) (hi : i < rs.length) (hi2 : rs.length < 9223372036854775807) (hl : (rd_T45 rs (i : Int)).f0.length = n) (q : Int)
    (hq : Ev (fun k => examboardref34_Valid.l2 k (n : Int) ((i + 1 : Nat) : Int) v rs fx) q) :
    ∀ d j, n - j = d → j ≤ n → Ev (fun k => examboardref34_Valid.l3 k (n : Int) (i : Int) (j : Int) v rs fx) (if (((rd_T45 rs (i : Int)).f0.drop j).all okCoef && (okSum (rd_T45 rs (i : Int)).f1 && okSum (rd_T45 rs (i : Int)).f2)) = true then q else 3) := by
  intro d
  induction d with
  | zero =>
    intro j hd hj
    rw [List.drop_eq_nil_of_le (by omega)]
    cases h1 : okSum (rd_T45 rs (i : Int)).f1 with
    | false =>
      refine Ev.step (f := fun _ => some 3) (fun k => ?_) (by simpa using Ev.now (3 : Int))
      simp only [examboardref34_Valid.l3]; rw [if_neg (by omega), if_pos (by omega), if_pos (by omega), rwithin_sum, Option.bind_some, if_neg (by rw [h1]; decide)]
    | true =>
      cases h2 : okSum (rd_T45 rs (i : Int)).f2 with
      | false =>
        refine Ev.step (f := fun _ => some 3) (fun k => ?_) (by simpa using Ev.now (3 : Int))
        simp only [examboardref34_Valid.l3]; rw [if_neg (by omega), if_pos (by omega), if_pos (by omega), rwithin_sum, Option.bind_some, if_pos h1, rwithin_sum, Option.bind_some, if_neg (by rw [h2]; decide)]
      | true =>
        refine Ev.step (f := fun k => examboardref34_Valid.l2 k (n : Int) ((i + 1 : Nat) : Int) v rs fx) (fun k => ?_) (by simpa using hq)
        simp only [examboardref34_Valid.l3]; rw [if_neg (by omega), if_pos (by omega), if_pos (by omega), rwithin_sum, Option.bind_some, if_pos h1, rwithin_sum, Option.bind_some, if_pos h2, wrap_nat (by omega)]
  | succ d ih =>
    intro j hd hj
    have hlt : j < (rd_T45 rs (i : Int)).f0.length := by omega
    rw [drop_rd hlt]
    by_cases hb : okCoef (rd (rd_T45 rs (i : Int)).f0 (j : Int)) = true
    · refine Ev.step (f := fun k => examboardref34_Valid.l3 k (n : Int) (i : Int) ((j + 1 : Nat) : Int) v rs fx) (fun k => ?_) ?_
      · simp only [examboardref34_Valid.l3]; rw [if_pos (by omega), if_pos (by omega), if_pos (by omega), if_pos (by omega), if_pos (by omega), rwithin_coef, Option.bind_some, if_pos hb, wrap_nat (by omega)]
      · simpa [List.all_cons, hb] using ih (j + 1) (by omega) (by omega)
    · refine Ev.step (f := fun _ => some 3) (fun k => ?_) ?_
      · simp only [examboardref34_Valid.l3]; rw [if_pos (by omega), if_pos (by omega), if_pos (by omega), if_pos (by omega), if_pos (by omega), rwithin_coef, Option.bind_some, if_neg hb]
      · simpa [List.all_cons, hb] using Ev.now (3 : Int)
theorem rd_mem {rs : List S45} {i : Nat} (h : i < rs.length) : rd_T45 rs (i : Int) ∈ rs := by
  rw [rd_T45, Int.toNat_natCast, List.getD_eq_getElem?_getD, List.getElem?_eq_getElem h]; exact List.getElem_mem h
theorem r_l2 (v : List Int) (rs : List S45) (fx : List Int) (n : Nat) (hn : n < 9223372036854775807) (hr : rs.length < 9223372036854775807) (hcs : ∀ r ∈ rs, r.f0.length = n) :
    ∀ d i, rs.length - i = d → i ≤ rs.length → Ev (fun k => examboardref34_Valid.l2 k (n : Int) (i : Int) v rs fx) (if (rs.drop i).all okRow = true then 0 else 3) := by
  intro d
  induction d with
  | zero =>
    intro i hd hi
    rw [List.drop_eq_nil_of_le (by omega)]
    refine Ev.step (f := fun _ => some 0) (fun k => ?_) (Ev.now _)
    simp only [examboardref34_Valid.l2]; rw [if_neg (by omega)]
  | succ d ih =>
    intro i hd hi
    have hlt : i < rs.length := by omega
    rw [drop_rdT hlt]
    have h3 := r_l3 v rs fx n hn i hlt hr (hcs _ (rd_mem hlt)) _ (ih (i + 1) (by omega) (by omega)) n 0 rfl (Nat.zero_le _)
    refine Ev.step (f := fun k => examboardref34_Valid.l3 k (n : Int) (i : Int) 0 v rs fx) (fun k => by simp only [examboardref34_Valid.l2]; rw [if_pos (by omega)]) ?_
    have h4 : (if ((List.drop 0 (rd_T45 rs (i : Int)).f0).all okCoef && (okSum (rd_T45 rs (i : Int)).f1 && okSum (rd_T45 rs (i : Int)).f2)) = true then (if (rs.drop (i + 1)).all okRow = true then (0 : Int) else 3) else 3) = (if (rd_T45 rs (i : Int) :: rs.drop (i + 1)).all okRow = true then 0 else 3) := by
      rw [List.drop_zero, List.all_cons]
      unfold okRow
      cases h5 : (rd_T45 rs (i : Int)).f0.all okCoef <;> cases h6 : okSum (rd_T45 rs (i : Int)).f1 <;> cases h7 : okSum (rd_T45 rs (i : Int)).f2 <;> simp
    rw [← h4]
    exact h3
theorem r_l1 (v : List Int) (rs : List S45) (fx : List Int) (hv : v.length ≤ 24) (hf : fx.length = v.length) (q : Int) (hq : Ev (fun k => examboardref34_Valid.l2 k (v.length : Int) 0 v rs fx) q) :
    ∀ d i, v.length - i = d → i ≤ v.length → Ev (fun k => examboardref34_Valid.l1 k (v.length : Int) (i : Int) v rs fx) (if ((v.drop i).all okCoef && (fx.drop i).all okFix) = true then q else 3) := by
  intro d
  induction d with
  | zero =>
    intro i hd hi
    rw [List.drop_eq_nil_of_le (by omega), List.drop_eq_nil_of_le (by omega)]
    refine Ev.step (f := fun k => examboardref34_Valid.l2 k (v.length : Int) 0 v rs fx) (fun k => ?_) hq
    simp only [examboardref34_Valid.l1]; rw [if_neg (by omega)]
  | succ d ih =>
    intro i hd hi
    have hlt : i < v.length := by omega
    have hlf : i < fx.length := by omega
    rw [drop_rd hlt, drop_rd hlf, List.all_cons, List.all_cons]
    by_cases hb : okCoef (rd v (i : Int)) = true
    · by_cases h1 : okFix (rd fx (i : Int)) = true
      · refine Ev.step (f := fun k => examboardref34_Valid.l1 k (v.length : Int) ((i + 1 : Nat) : Int) v rs fx) (fun k => ?_) ?_
        · simp only [examboardref34_Valid.l1]; rw [if_pos (by omega), if_pos (by omega), if_pos (by omega), rwithin_coef, Option.bind_some, if_pos hb, if_pos (by omega), rwithin_fix, Option.bind_some, if_pos h1, wrap_nat (by omega)]
        · simpa [hb, h1] using ih (i + 1) (by omega) (by omega)
      · refine Ev.step (f := fun _ => some 3) (fun k => ?_) ?_
        · simp only [examboardref34_Valid.l1]; rw [if_pos (by omega), if_pos (by omega), if_pos (by omega), rwithin_coef, Option.bind_some, if_pos hb, if_pos (by omega), rwithin_fix, Option.bind_some, if_neg h1]
        · simpa [h1] using Ev.now (3 : Int)
    · refine Ev.step (f := fun _ => some 3) (fun k => ?_) ?_
      · simp only [examboardref34_Valid.l1]; rw [if_pos (by omega), if_pos (by omega), if_pos (by omega), rwithin_coef, Option.bind_some, if_neg hb]
      · simpa [hb] using Ev.now (3 : Int)
theorem r_l0 (v : List Int) (rs : List S45) (fx : List Int) (hr : rs.length ≤ 60) (q : Int) (hq : (∀ r ∈ rs, r.f0.length = v.length) → Ev (fun k => examboardref34_Valid.l1 k (v.length : Int) 0 v rs fx) q) :
    ∀ d i, rs.length - i = d → i ≤ rs.length → (∀ r ∈ rs.take i, r.f0.length = v.length) → Ev (fun k => examboardref34_Valid.l0 k (v.length : Int) (i : Int) v rs fx) (if (rs.drop i).all (fun r => r.f0.length == v.length) = true then q else 1) := by
  intro d
  induction d with
  | zero =>
    intro i hd hi ht
    rw [List.take_of_length_le (by omega)] at ht
    rw [List.drop_eq_nil_of_le (by omega)]
    refine Ev.step (f := fun k => examboardref34_Valid.l1 k (v.length : Int) 0 v rs fx) (fun k => ?_) (hq ht)
    simp only [examboardref34_Valid.l0]; rw [if_neg (by omega)]
  | succ d ih =>
    intro i hd hi ht
    have hlt : i < rs.length := by omega
    rw [drop_rdT hlt, List.all_cons]
    by_cases hb : (rd_T45 rs (i : Int)).f0.length = v.length
    · refine Ev.step (f := fun k => examboardref34_Valid.l0 k (v.length : Int) ((i + 1 : Nat) : Int) v rs fx) (fun k => ?_) ?_
      · simp only [examboardref34_Valid.l0]; rw [if_pos (by omega), if_pos (by omega), if_pos (by omega), wrap_nat (by omega)]
      · have := ih (i + 1) (by omega) (by omega) (by
          intro r hr2
          rw [List.take_succ_eq_append_getElem hlt, List.mem_append] at hr2
          rcases hr2 with hr2 | hr2
          · exact ht r hr2
          · rw [List.mem_singleton] at hr2
            subst hr2
            rw [rd_T45, Int.toNat_natCast, List.getD_eq_getElem?_getD, List.getElem?_eq_getElem hlt] at hb
            exact hb)
        simpa [hb] using this
    · refine Ev.step (f := fun _ => some 1) (fun k => ?_) ?_
      · simp only [examboardref34_Valid.l0]; rw [if_pos (by omega), if_pos (by omega), if_neg (by omega)]
      · simpa [hb] using Ev.now (1 : Int)
/-- The reference's Valid. -/
theorem rvalid_ev (v : List Int) (rs : List S45) (fx : List Int) : Ev (fun k => examboardref34_Valid.f k v rs fx) (validS v rs fx) := by
  by_cases h : 24 < v.length ∨ 60 < rs.length
  · have hs : validS v rs fx = 5 := by unfold validS; rw [if_pos h]
    rw [hs]
    by_cases h1 : 24 < v.length
    · refine Ev.congr (f := fun k => examboardref34_Valid.j0 k (v.length : Int) true v rs fx) (fun k => by unfold examboardref34_Valid.f; rw [if_pos (by omega)]) ?_
      exact Ev.step (f := fun _ => some 5) (fun k => by simp only [examboardref34_Valid.j0]; rfl) (Ev.now _)
    · refine Ev.congr (f := fun k => examboardref34_Valid.j0 k (v.length : Int) true v rs fx) (fun k => by unfold examboardref34_Valid.f; rw [if_neg (by omega), decide_eq_true (show (rs.length : Int) > 60 by omega)]) ?_
      exact Ev.step (f := fun _ => some 5) (fun k => by simp only [examboardref34_Valid.j0]; rfl) (Ev.now _)
  have h1 : v.length ≤ 24 := by omega
  have h2 : rs.length ≤ 60 := by omega
  refine Ev.congr (f := fun k => examboardref34_Valid.j0 k (v.length : Int) false v rs fx) (fun k => by unfold examboardref34_Valid.f; rw [if_neg (by omega), decide_eq_false (show ¬ (rs.length : Int) > 60 by omega)]) ?_
  unfold validS
  rw [if_neg h]
  by_cases h3 : fx.length = v.length
  · rw [if_neg (by omega)]
    refine Ev.step (f := fun k => examboardref34_Valid.l0 k (v.length : Int) 0 v rs fx) (fun k => by simp only [examboardref34_Valid.j0]; rw [if_neg (by decide), if_pos (by omega)]) ?_
    have e0 := r_l0 v rs fx h2 _ (fun ha => r_l1 v rs fx h1 h3 _ (r_l2 v rs fx v.length (by omega) (by omega) ha rs.length 0 rfl (Nat.zero_le _)) v.length 0 rfl (Nat.zero_le _)) rs.length 0 rfl (Nat.zero_le _) (fun r hr2 => by simp at hr2)
    simp only [List.drop_zero] at e0
    cases h4 : rs.all (fun r => r.f0.length == v.length) with
    | false => simpa [h4] using e0
    | true =>
      rw [h4] at e0
      simp only [if_true] at e0
      rw [if_neg (by decide)]
      cases h5 : v.all okCoef <;> cases h6 : fx.all okFix <;> simpa [h5, h6] using e0
  · rw [if_pos (by omega)]
    exact Ev.step (f := fun _ => some 1) (fun k => by simp only [examboardref34_Valid.j0]; rw [if_neg (by decide), if_neg (by omega)]) (Ev.now _)
end Go.Proofs.Ythicnegcpafkkaa.Spec
