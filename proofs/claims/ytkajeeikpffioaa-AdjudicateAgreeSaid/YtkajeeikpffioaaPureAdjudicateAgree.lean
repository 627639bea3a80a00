/- Two ratings that agree are decided without a third one, and a decision that is not taken trait by trait lies between twice the lowest and twice the highest total: the plain statement. -/
import Derived.Test.YtkajeeikpffioaaAllx21
import Derived.Test.YtkajeeikpffioaaAllx20
import Derived.Test.YtkajeeikpffioaaFits
set_option linter.unusedVariables false
namespace Go.Proofs.Ytkajeeikpffioaa.Pure
open Go.RowKit Go.Proofs.YtkajeeikpffioaaW.PrintWords Go.Proofs.Ytkajeeikpffioaa.All Go.Proofs.Ytkajeeikpffioaa.Opener Go.Proofs.Ytkajeeikpffioaa.Spec
def mostS : List S59 → Int
  | t :: ts => t.f1 * t.f2 + mostS ts
  | [] => 0
theorem most_le : ∀ {ts : List S59}, (∀ t ∈ ts, traitOk t) → 0 ≤ mostS ts ∧ mostS ts ≤ 100 * (ts.length : Int)
  | [], _ => by simp [mostS]
  | t :: ts, h => by
    have q := h t (List.mem_cons_self ..)
    have q3 := mul_mark (m := t.f1) (by have := q.1; omega) q.1.2 q.2.1 q.2.2
    have ih := most_le (ts := ts) (fun u hu => h u (List.mem_cons_of_mem _ hu))
    simp only [mostS, List.length_cons]; omega
theorem total_most : ∀ {ms : List Int} {ts : List S59}, ms.length = ts.length → fitsV ms ts = true → (∀ t ∈ ts, traitOk t) → totalS ms ts ≤ mostS ts
  | [], [], _, _, _ => by simp [totalS, mostS]
  | [], _ :: _, h, _, _ => by simp at h
  | _ :: _, [], h, _, _ => by simp at h
  | m :: ms, t :: ts, hl, hf, ht => by
    have q2 := ht t (List.mem_cons_self ..)
    simp only [fitsV, Bool.and_eq_true, decide_eq_true_eq] at hf
    have ih := total_most (ms := ms) (ts := ts) (by simpa using hl) hf.2 (fun u hu => ht u (List.mem_cons_of_mem _ hu))
    have q3 : m * t.f2 ≤ t.f1 * t.f2 := Int.mul_le_mul_of_nonneg_right hf.1.2 (by have := q2.2.1; omega)
    simp only [totalS, mostS]; omega
theorem check_most {id : Int} {ts : List S59} {ms : List Int} (h : checkV id ts ms = 0) : totalS ms ts ≤ mostS ts := by
  obtain ⟨v0, hl, hf⟩ := check_told h
  exact total_most hl hf (valid_told v0).2.2
theorem most_ev (id : Int) (ts : List S59) (hn : namesFit ts = true) (h0 : validV id ts = 0) : Ev (fun k => rubric_Most.f k id ts) (mostS ts, 0) := by
  obtain ⟨h6, _, ht⟩ := valid_told h0
  unfold rubric_Most.f
  refine Ev.bindS (valid_is hn) (Ev.iteP h0 ?_)
  have h : ∀ (d i : Nat) (s : Int), ts.length - i = d → i ≤ ts.length → 0 ≤ s ∧ s ≤ 100 * (i : Int) → Ev (fun k => rubric_Most.l0 k s ts (ts.length : Int) (i : Int)) (s + mostS (ts.drop i), 0) := by
    intro d
    induction d with
    | zero =>
      intro i s hd hi hs
      rw [List.drop_eq_nil_of_le (by omega)]
      refine Ev.up ?_
      simp only [rubric_Most.l0]
      exact Ev.iteN (by omega) (Ev.is (by simp [mostS]))
    | succ d ih =>
      intro i s hd hi hs
      have hlt : i < ts.length := by omega
      have q := ht _ (rdT_mem hlt)
      have q3 := mul_mark (m := (rd_T59 ts (i : Int)).f1) (by have := q.1; omega) q.1.2 q.2.1 q.2.2
      rw [drop_rdT hlt]
      refine Ev.up ?_
      simp only [rubric_Most.l0, mostS]
      rw [wrap_nat (i := i) (by omega), wrap_in (n := (rd_T59 ts (i : Int)).f1 * (rd_T59 ts (i : Int)).f2) (by omega) (by omega), wrap_in (by omega) (by omega)]
      refine Ev.iteP (by omega) (Ev.iteP (by omega) (Ev.iteP (by omega) ?_))
      have q4 := ih (i + 1) (s + (rd_T59 ts (i : Int)).f1 * (rd_T59 ts (i : Int)).f2) (by omega) (by omega) (by omega)
      rwa [Int.add_assoc] at q4
  have h1 := h _ 0 0 rfl (Nat.zero_le _) (by omega)
  simpa using h1
theorem agree_zero2 {g u id : Int} {ts : List S59} {x y : List Int} (h : ruleV g u = 0) (hx : checkV id ts x = 0) (hy : checkV id ts y = 0) : (agreeV g u id ts x y).2 = 0 := by
  have hf : firstV id ts [x, y] = 0 := by simp only [firstV]; rw [if_pos hx, if_pos hy]
  unfold agreeV apartV
  rw [if_pos h, if_pos hf]; rfl
/-- The loop over the totals: what is found is a lowest and a highest total. -/
theorem loop_ev (g u id : Int) (ts : List S59) (l : List (List Int)) (s : Int) (hn : namesFit ts = true) (hl : l.length ≤ 3) (h2 : 2 ≤ l.length) (hv : validV id ts = 0) (hc : ∀ m ∈ l, checkV id ts m = 0) (h0 : 0 ≤ s) (hm : s ≤ 2 * mostS ts)
    (hs : ∀ lo hi : Int, (∀ m ∈ l, lo ≤ totalS m ts ∧ totalS m ts ≤ hi) → (l.length = 3 ∧ u = 3) ∨ (2 * lo ≤ s ∧ s ≤ 2 * hi)) :
    Ev (fun k => examboardlaw43_AdjudicateAgree.l0 k l s 0 0 0 l (l.length : Int) 0 g u id ts) true := by
  have hmost := most_le (valid_told hv).2.2
  have h6 := (valid_told hv).1
  have fin : ∀ lo hi : Int, 0 ≤ lo → lo ≤ 600 → 0 ≤ hi → hi ≤ 600 → (∀ m ∈ l, lo ≤ totalS m ts ∧ totalS m ts ≤ hi) → Ev (fun k => examboardlaw43_AdjudicateAgree.l0 k l s lo hi 0 l (l.length : Int) (l.length : Int) g u id ts) true := by
    intro lo hi l0 l1 g0 g1 hb
    refine Ev.up ?_
    simp only [examboardlaw43_AdjudicateAgree.l0]
    refine Ev.iteN (by omega) (Ev.bind (most_ev id ts hn hv) (Ev.iteP trivial (Ev.iteP rfl (Ev.iteN (by omega) (Ev.iteN (by show ¬ s > wrap64 (2 * mostS ts); rw [wrap_in (by omega) (by omega)]; omega) ?_)))))
    rw [wrap_in (n := 2 * lo) (by omega) (by omega), wrap_in (n := 2 * hi) (by omega) (by omega)]
    rcases hs lo hi hb with ⟨q1, q2⟩ | ⟨q1, q2⟩
    · exact Ev.iteP (by omega) (Ev.iteP q2 aw_ev)
    · exact Ev.iteC (fun _ => Ev.iteC (fun _ => aw_ev) (fun _ => Ev.iteP (by omega) (Ev.iteP (by omega) aw_ev))) (fun _ => Ev.iteP (by omega) (Ev.iteP (by omega) aw_ev))
  have h : ∀ (d i : Nat) (lo hi : Int), l.length - i = d → i ≤ l.length → 0 ≤ lo → lo ≤ 600 → 0 ≤ hi → hi ≤ 600 → (∀ m ∈ l.take i, lo ≤ totalS m ts ∧ totalS m ts ≤ hi) →
      Ev (fun k => examboardlaw43_AdjudicateAgree.l0 k l s lo hi 0 l (l.length : Int) (i : Int) g u id ts) true := by
    intro d
    induction d with
    | zero =>
      intro i lo hi hd hi' l0 l1 g0 g1 hb
      obtain rfl : i = l.length := by omega
      rw [List.take_of_length_le (Nat.le_refl _)] at hb
      exact fin lo hi l0 l1 g0 g1 hb
    | succ d ih =>
      intro i lo hi hd hi' l0 l1 g0 g1 hb
      have hlt : i < l.length := by omega
      have hmem : rd_L1 l (i : Int) ∈ l := by
        rw [rd_L1, Int.toNat_natCast, List.getD_eq_getElem?_getD, List.getElem?_eq_getElem hlt]; exact List.getElem_mem hlt
      have ht : l.take (i + 1) = l.take i ++ [rd_L1 l (i : Int)] := by
        rw [List.take_succ_eq_append_getElem hlt, rd_L1, Int.toNat_natCast, List.getD_eq_getElem?_getD, List.getElem?_eq_getElem hlt]; rfl
      have hck := hc _ hmem
      have tb := total_600 hck
      -- one round, whatever is taken
      have next : ∀ lo' hi' : Int, (i = 0 ∧ lo' = totalS (rd_L1 l (i : Int)) ts ∧ hi' = totalS (rd_L1 l (i : Int)) ts) ∨ ((lo' = lo ∨ lo' = totalS (rd_L1 l (i : Int)) ts) ∧ lo' ≤ lo ∧ lo' ≤ totalS (rd_L1 l (i : Int)) ts ∧ (hi' = hi ∨ hi' = totalS (rd_L1 l (i : Int)) ts) ∧ hi ≤ hi' ∧ totalS (rd_L1 l (i : Int)) ts ≤ hi') →
          Ev (fun k => examboardlaw43_AdjudicateAgree.l0 k l s lo' hi' 0 l (l.length : Int) ((i + 1 : Nat) : Int) g u id ts) true := by
        intro lo' hi'' q
        refine ih (i + 1) lo' hi'' (by omega) (by omega) (by omega) (by omega) (by omega) (by omega) (fun m hm => ?_)
        rw [ht] at hm
        rcases List.mem_append.1 hm with hm | hm
        · rcases q with ⟨rfl, _, _⟩ | q
          · simp at hm
          · have := hb m hm; omega
        · rw [List.mem_singleton.1 hm]; omega
      refine Ev.up ?_
      simp only [examboardlaw43_AdjudicateAgree.l0]
      refine Ev.iteP (by omega) (Ev.iteP (by omega) (Ev.iteP (by omega) (Ev.bind (total_ev id ts _ hn) ?_)))
      rw [total_is hck]
      refine Ev.iteP rfl (Ev.up ?_)
      simp only [examboardlaw43_AdjudicateAgree.j3]
      refine Ev.iteC (fun hi0 => ?_) (fun hi0 => ?_)
      · refine Ev.up ?_
        simp only [examboardlaw43_AdjudicateAgree.j4]
        rw [wrap_nat (i := i) (by omega)]
        exact Ev.iteP trivial (Ev.iteP hi0 (next _ _ (Or.inl ⟨by omega, rfl, rfl⟩)))
      · refine Ev.up ?_
        simp only [examboardlaw43_AdjudicateAgree.j4, decide_eq_true_eq]
        rw [wrap_nat (i := i) (by omega)]
        refine Ev.iteC (fun q1 => Ev.iteN hi0 (Ev.iteC (fun q2 => next _ _ (Or.inr ?_)) (fun q2 => next _ _ (Or.inr ?_)))) (fun q1 => Ev.iteN hi0 (Ev.iteC (fun q2 => next _ _ (Or.inr ?_)) (fun q2 => next _ _ (Or.inr ?_)))) <;> omega
  exact h _ 0 0 0 rfl (Nat.zero_le _) (by omega) (by omega) (by omega) (by omega) (fun m hm => by simp at hm)
theorem AdjudicateAgree (g u id : Int) (ts : List S59) (l : List (List Int)) (hA : IntOk g ∧ IntOk u) (hB : RubricFits (id, ts)) (hL : RowOk 24 (RowOk 8 IntOk) l) :
    ∃ k, examboardlaw43_AdjudicateAgree.f k g u id ts l = some true := by
  have hn := names_fit hB
  have hsm : Sm l := row_sm hL (by omega)
  refine Ev.rounds (g := fun k => examboardlaw43_AdjudicateAgree.f k g u id ts l) ?_
  unfold examboardlaw43_AdjudicateAgree.f
  refine Ev.bind (need_ev g u id ts l hn hsm) (Ev.bind (score_ev g u id ts l hn hsm) ?_)
  by_cases h0 : ratingsV g u id ts l = 0
  · obtain ⟨hr, hv, h3, hf⟩ := ratings_told h0
    have hc := first_mem hf
    -- no score, none needed to be told
    have j1a : ∀ e : Int, e ≠ 0 → Ev (fun k => examboardlaw43_AdjudicateAgree.j1 k l 0 e g u id ts) true := by
      intro e he
      refine Ev.up ?_
      simp only [examboardlaw43_AdjudicateAgree.j1]
      exact Ev.iteN he (Ev.iteP trivial aw_ev)
    match l, h3, hc, h0, hf, j1a with
    | [], _, hc, h0, hf, j1a =>
      have e1 : needV g u id ts [] = (2, 0) := by unfold needV; rw [if_pos h0]
      have e2 : scoreV g u id ts [] = (0, 22) := by unfold scoreV; rw [e1]; rfl
      rw [e1, e2]
      refine Ev.iteP rfl (Ev.iteN (by simp) (Ev.iteN (by simp) (Ev.iteN (by simp) (Ev.up ?_))))
      simp only [examboardlaw43_AdjudicateAgree.j0]
      exact Ev.iteN (by simp) (Ev.iteN (by simp) (j1a 22 (by decide)))
    | [x], _, hc, h0, hf, j1a =>
      have e1 : needV g u id ts [x] = (1, 0) := by unfold needV; rw [if_pos h0]
      have e2 : scoreV g u id ts [x] = (0, 22) := by unfold scoreV; rw [e1]; rfl
      rw [e1, e2]
      refine Ev.iteP rfl (Ev.iteN (by simp) (Ev.iteN (by simp) (Ev.iteN (by simp) (Ev.up ?_))))
      simp only [examboardlaw43_AdjudicateAgree.j0]
      exact Ev.iteN (by simp) (Ev.iteN (by simp) (j1a 22 (by decide)))
    | [x, y], _, hc, h0, hf, j1a =>
      have hx := hc x (by simp); have hy := hc y (by simp)
      have az := agree_zero2 hr hx hy
      have tx := total_600 hx; have ty := total_600 hy
      have mx' := check_most hx; have my := check_most hy
      by_cases ha : (agreeV g u id ts x y).1 = true
      · have e1 : needV g u id ts [x, y] = (0, 0) := by unfold needV; rw [if_pos h0]; exact if_pos ha
        have e2 : scoreV g u id ts [x, y] = (totalS x ts + totalS y ts, 0) := by unfold scoreV; rw [e1]; rfl
        rw [e1, e2]
        refine Ev.iteP rfl (Ev.iteN (by simp) (Ev.iteN (by simp) (Ev.iteN (by simp) (Ev.up ?_))))
        simp only [examboardlaw43_AdjudicateAgree.j0]
        refine Ev.iteN (by simp) (Ev.iteP (by simp) (Ev.iteP (by simp) (Ev.iteP (by simp) (Ev.bind (agree_ev g u id ts x y hn) (Ev.iteP az (Ev.iteP (by simp) (Ev.iteN (by rw [ha]; simp) (Ev.iteN (by simp) ?_))))))))
        refine Ev.up ?_
        simp only [examboardlaw43_AdjudicateAgree.j1]
        refine Ev.iteP trivial (loop_ev g u id ts [x, y] _ hn (by simp) (by simp) hv hc (by omega) (by omega) (fun lo hi q => Or.inr ?_))
        have qx := q x (by simp); have qy := q y (by simp)
        omega
      · have e1 : needV g u id ts [x, y] = (1, 0) := by unfold needV; rw [if_pos h0]; exact if_neg ha
        have e2 : scoreV g u id ts [x, y] = (0, 22) := by unfold scoreV; rw [e1]; rfl
        rw [e1, e2]
        refine Ev.iteP rfl (Ev.iteN (by simp) (Ev.iteN (by simp) (Ev.iteN (by simp) (Ev.up ?_))))
        simp only [examboardlaw43_AdjudicateAgree.j0]
        exact Ev.iteN (by simp) (Ev.iteP (by simp) (Ev.iteP (by simp) (Ev.iteP (by simp) (Ev.bind (agree_ev g u id ts x y hn) (Ev.iteP az (Ev.iteP (by simp) (Ev.iteN (by simpa using ha) (Ev.iteN (by simp) (j1a 22 (by decide))))))))))
    | [x, y, z], _, hc, h0, hf, j1a =>
      have hx := hc x (by simp); have hy := hc y (by simp); have hz := hc z (by simp)
      have az := agree_zero2 hr hx hy
      have tx := total_600 hx; have ty := total_600 hy; have tz := total_600 hz
      have mx' := check_most hx; have my := check_most hy; have mz := check_most hz
      have hm := med_check hx hy hz
      have tm := total_600 hm; have mm := check_most hm
      have e1 : needV g u id ts [x, y, z] = (0, 0) := by unfold needV; rw [if_pos h0]
      by_cases ha : (agreeV g u id ts x y).1 = true
      · have e2 : scoreV g u id ts [x, y, z] = (0, 21) := by unfold scoreV; rw [e1]; exact if_pos ha
        rw [e1, e2]
        refine Ev.iteP rfl (Ev.iteN (by simp) (Ev.iteN (by simp) (Ev.iteN (by simp) (Ev.up ?_))))
        simp only [examboardlaw43_AdjudicateAgree.j0]
        exact Ev.iteN (by simp) (Ev.iteP (by simp) (Ev.iteP (by simp) (Ev.iteP (by simp) (Ev.bind (agree_ev g u id ts x y hn) (Ev.iteP az (Ev.iteN (by simp) (Ev.iteP (by simp) (Ev.iteN (by rw [ha]; simp) (j1a 21 (by decide))))))))))
      · have e2 : scoreV g u id ts [x, y, z] = (thirdV u id ts x y z, 0) := by unfold scoreV; rw [e1]; exact if_neg ha
        rw [e1, e2]
        refine Ev.iteP rfl (Ev.iteN (by simp) (Ev.iteN (by simp) (Ev.iteN (by simp) (Ev.up ?_))))
        simp only [examboardlaw43_AdjudicateAgree.j0]
        refine Ev.iteN (by simp) (Ev.iteP (by simp) (Ev.iteP (by simp) (Ev.iteP (by simp) (Ev.bind (agree_ev g u id ts x y hn) (Ev.iteP az (Ev.iteN (by simp) (Ev.iteP (by simp) (Ev.iteN (by simpa using ha) ?_))))))))
        refine Ev.up ?_
        simp only [examboardlaw43_AdjudicateAgree.j1]
        have hu : 1 ≤ u ∧ u ≤ 3 := by
          unfold ruleV at hr
          by_cases q : g < 0 ∨ 10 < g
          · rw [if_pos q] at hr; exact absurd hr (by decide)
          · rw [if_neg q] at hr
            by_cases q2 : u < 1 ∨ 3 < u
            · rw [if_pos q2] at hr; exact absurd hr (by decide)
            · omega
        have ht : 0 ≤ thirdV u id ts x y z ∧ thirdV u id ts x y z ≤ 2 * mostS ts := by
          unfold thirdV
          repeat' split
          all_goals omega
        refine Ev.iteP trivial (loop_ev g u id ts [x, y, z] _ hn (by simp) (by simp) hv hc ht.1 ht.2 (fun lo hi q => ?_))
        have qx := q x (by simp); have qy := q y (by simp); have qz := q z (by simp)
        by_cases h3 : u = 3
        · exact Or.inl ⟨rfl, h3⟩
        · refine Or.inr ?_
          unfold thirdV
          repeat' split
          all_goals omega
  · have e1 : needV g u id ts l = (0, ratingsV g u id ts l) := by unfold needV; rw [if_neg h0]
    have e2 : scoreV g u id ts l = (0, ratingsV g u id ts l) := by unfold scoreV; rw [e1]; exact if_neg h0
    rw [e1, e2]
    exact Ev.iteN h0 (Ev.iteP rfl (Ev.iteP rfl (Ev.iteP rfl aw_ev)))
end Go.Proofs.Ytkajeeikpffioaa.Pure
