/- An operational item was approved by two reviewers and a fairness reviewer, all different, none its author: the plain statement. -/
import Derived.Test.YtokmnbdnligcaaaAllx23
import Derived.Test.YtokmnbdnligcaaaAllx22
import Derived.Test.YtokmnbdnligcaaaOpens
import Derived.Test.YtokmnbdnligcaaaPerform
set_option linter.unusedVariables false
namespace Go.Proofs.Ytokmnbdnligcaaa.Pure
open Go.RowKit Go.Proofs.YtokmnbdnligcaaaW.PrintWords Go.Proofs.Ytokmnbdnligcaaa.All Go.Proofs.Ytokmnbdnligcaaa.Opener Go.Proofs.Ytokmnbdnligcaaa.Spec
def cnt (x : Int) : List Int → Nat
  | [] => 0
  | y :: l => (if y = x then 1 else 0) + cnt x l
theorem cnt_le (x : Int) : ∀ l : List Int, cnt x l ≤ l.length
  | [] => Nat.le_refl _
  | y :: l => by have := cnt_le x l; simp only [cnt, List.length_cons]; split <;> omega
theorem cnt_zero {x : Int} : ∀ {l : List Int}, x ∉ l → cnt x l = 0
  | [], _ => rfl
  | y :: l, h => by
    simp only [List.mem_cons, not_or] at h
    simp only [cnt, cnt_zero h.2]; rw [if_neg (Ne.symm h.1)]
theorem cnt_one {x : Int} : ∀ {l : List Int}, l.Nodup → x ∈ l → cnt x l = 1
  | y :: l, hn, h => by
    rw [List.nodup_cons] at hn
    simp only [cnt]
    by_cases e : y = x
    · subst e; rw [if_pos rfl, cnt_zero hn.1]
    · rw [if_neg e, cnt_one hn.2 (by rcases List.mem_cons.1 h with q | q; exact absurd q.symm e; exact q)]
theorem among_ev (l : List Int) (x : Int) (hl : l.length < 4611686018427387904) : Ev (fun k => examboardlaw15_among.f k l x) (cnt x l : Int) := by
  have h : ∀ (d i n : Nat), l.length - i = d → i ≤ l.length → n ≤ i → Ev (fun k => examboardlaw15_among.l0 k l x (n : Int) (i : Int)) ((n + cnt x (l.drop i) : Nat) : Int) := by
    intro d
    induction d with
    | zero =>
      intro i n hd hi hn
      rw [List.drop_eq_nil_of_le (by omega)]
      refine Ev.up ?_
      simp only [examboardlaw15_among.l0]
      exact Ev.iteN (by omega) (Ev.is (by simp [cnt]))
    | succ d ih =>
      intro i n hd hi hn
      have hlt : i < l.length := by omega
      rw [drop_rd hlt]
      refine Ev.up ?_
      simp only [examboardlaw15_among.l0]
      rw [wrap_nat (i := n) (by omega), wrap_nat (i := i) (by omega)]
      refine Ev.iteP (by omega) (Ev.iteP (by omega) (Ev.iteC (fun h => ?_) (fun h => ?_)))
      · have h1 := ih (i + 1) (n + 1) (by omega) (by omega) (by omega)
        rwa [show (n + cnt x (rd l (i : Int) :: l.drop (i + 1))) = n + 1 + cnt x (l.drop (i + 1)) by simp only [cnt]; rw [if_pos h]; omega]
      · have h1 := ih (i + 1) n (by omega) (by omega) (by omega)
        rwa [show (n + cnt x (rd l (i : Int) :: l.drop (i + 1))) = n + cnt x (l.drop (i + 1)) by simp only [cnt]; rw [if_neg h]; omega]
  have h0 := h _ 0 0 rfl (Nat.zero_le _) (Nat.le_refl _)
  simpa [examboardlaw15_among.f] using h0
theorem ReviewDuties (au : Int) (L : List S34) (_ : IntOk au) (h : RowOk 32 ActFits L) : ∃ k, examboardlaw15_ReviewDuties.f k au L = some true := by
  have hL : L.length < 9223372036854775807 := by have q : L.length * 32 ≤ 140737488351232 := h.1; omega
  refine Ev.rounds (g := fun k => examboardlaw15_ReviewDuties.f k au L) ?_
  have ht : Ev (fun k => examboardlaw15_ReviewDuties.j0 k au L true) true := by
    refine Ev.up ?_
    simp only [examboardlaw15_ReviewDuties.j0]
    exact Ev.iteP trivial (Ev.now _)
  unfold examboardlaw15_ReviewDuties.f
  refine Ev.iteC (fun _ => ht) (fun h1 => ?_)
  by_cases h2 : au > 9999999
  · rwa [show decide (au > 9999999) = true from decide_eq_true h2]
  rw [show decide (au > 9999999) = false from decide_eq_false h2]
  refine Ev.up ?_
  simp only [examboardlaw15_ReviewDuties.j0]
  refine Ev.iteN (by simp) (Ev.bind (perform_ev au L (by omega) hL) ?_)
  have hr : Runs au ((L.take 300).foldl stepV (newR au)) := runs_fold _ _ .new
  have hs := runs_short hr
  obtain ⟨e1, _, i3, i4, _, _, _, i8⟩ := runs_told hr
  generalize (L.take 300).foldl stepV (newR au) = r at e1 i3 i4 i8 hs ⊢
  obtain ⟨st, au', ap, fa, log⟩ := r
  simp only at e1 i3 i4 i8
  subst e1
  obtain ⟨s1, s2, s3⟩ := hs
  simp only at s1 s2 s3
  refine Ev.iteP rfl ?_
  refine Ev.up ?_
  simp only [examboardlaw15_ReviewDuties.j1]
  refine Ev.iteN (by simp) ?_
  have hj : (4 < st ∧ st < 7) → Ev (fun k => examboardlaw15_ReviewDuties.j2 k au' false st au' ap fa log) true := by
    intro hst
    obtain ⟨q1, x, rfl, q3, q4⟩ := i8 (by omega)
    refine Ev.up ?_
    simp only [examboardlaw15_ReviewDuties.j2]
    refine Ev.iteN (by simp) (Ev.iteN (by omega) (Ev.iteP (by simp) (Ev.iteP (by simp) ?_)))
    have e : rd [x] 0 = x := by simp [rd]
    rw [e]
    refine Ev.iteN q3 (Ev.bind (among_ev ap x (by omega)) ?_)
    rw [cnt_zero q4]
    refine Ev.up ?_
    simp only [examboardlaw15_ReviewDuties.j3]
    refine Ev.iteN (by simp) ?_
    have hl : ∀ (d i : Nat), ap.length - i = d → i ≤ ap.length → Ev (fun k => examboardlaw15_ReviewDuties.l0 k au' (i : Int) st au' ap [x] log) true := by
      intro d
      induction d with
      | zero =>
        intro i hd hi
        refine Ev.up ?_
        simp only [examboardlaw15_ReviewDuties.l0]
        exact Ev.iteN (by omega) (Ev.now _)
      | succ d ih =>
        intro i hd hi
        have hlt : i < ap.length := by omega
        have hm : rd ap (i : Int) ∈ ap := by
          rw [rd_nat, List.getD_eq_getElem?_getD, List.getElem?_eq_getElem hlt]; exact List.getElem_mem hlt
        refine Ev.up ?_
        simp only [examboardlaw15_ReviewDuties.l0]
        rw [wrap_nat (i := i) (by omega)]
        refine Ev.iteP (by omega) (Ev.iteP (by omega) (Ev.iteN (fun e => i3 (e ▸ hm)) (Ev.bind (among_ev ap _ (by omega)) ?_)))
        rw [cnt_one i4 hm]
        exact Ev.iteP rfl (ih (i + 1) (by omega) (by omega))
    exact hl _ 0 rfl (Nat.zero_le _)
  refine Ev.iteC (fun h5 => hj (by omega)) (fun h5 => ?_)
  by_cases h6 : st = 6
  · rw [show (st != 6) = false by simp [h6]]; exact hj (by omega)
  · rw [show (st != 6) = true by simp [h6]]
    refine Ev.up ?_
    simp only [examboardlaw15_ReviewDuties.j2]
    exact Ev.iteP trivial (Ev.now _)
end Go.Proofs.Ytokmnbdnligcaaa.Pure
