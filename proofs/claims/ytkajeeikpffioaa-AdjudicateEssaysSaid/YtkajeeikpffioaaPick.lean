/- What the program's Pick and Essay answer, in plain words; equal lists of lists are equal. -/
import Derived.Test.YtkajeeikpffioaaAllx1
import Derived.Test.YtkajeeikpffioaaAllx20
import Derived.Test.YtkajeeikpffioaaAllx2
import Derived.Test.YtkajeeikpffioaaOpens
import Derived.Test.YtkajeeikpffioaaAdj
set_option linter.unusedVariables false
namespace Go.Proofs.Ytkajeeikpffioaa.Spec
open Go.RowKit Go.Proofs.YtkajeeikpffioaaW.PrintWords Go.Proofs.YtkajeeikpffioaaW.PrintMore Go.Proofs.Ytkajeeikpffioaa.All Go.Proofs.Ytkajeeikpffioaa.Opener
theorem index_l0 (l : List Int) (x : Int) (hl : Sm l) : ∀ (d i : Nat), l.length - i = d → i ≤ l.length →
    ∃ v, Ev (fun k => slices_Index_int_int.l0 k l x (l.length : Int) (i : Int)) v ∧ decide (v ≥ 0) = decide (x ∈ l.drop i) := by
  intro d
  induction d with
  | zero =>
    intro i hd hi
    rw [List.drop_eq_nil_of_le (by omega)]
    refine ⟨-1, Ev.u ?_, by simp⟩
    simp only [slices_Index_int_int.l0]
    exact Ev.n (by omega) (Ev.now _)
  | succ d ih =>
    intro i hd hi
    have hlt : i < l.length := by omega
    rw [drop_rd hlt]
    by_cases h : x = rd l (i : Int)
    · refine ⟨(i : Int), Ev.u ?_, by simp [h]⟩
      simp only [slices_Index_int_int.l0]
      exact Ev.p (by omega) (Ev.p (by omega) (Ev.p (by omega) (Ev.p h (Ev.now _))))
    · obtain ⟨v, h1, h2⟩ := ih (i + 1) (by omega) (by omega)
      refine ⟨v, Ev.u ?_, by rw [h2]; simp [h]⟩
      simp only [slices_Index_int_int.l0]
      rw [wrap_nat (by omega)]
      exact Ev.p (by omega) (Ev.p (by omega) (Ev.p (by omega) (Ev.n h h1)))
theorem contains_ev (l : List Int) (x : Int) (hl : Sm l) : Ev (fun k => slices_Contains_int_int.f k l x) (decide (x ∈ l)) := by
  obtain ⟨v, h1, h2⟩ := index_l0 l x hl _ 0 rfl (Nat.zero_le _)
  unfold slices_Contains_int_int.f slices_Index_int_int.f
  refine Ev.bind h1 (Ev.i ?_)
  simpa using h2
abbrev Fit (m : List Int) : Prop := m.length < 17592186044416
def pickS (item : Int) : List S31 → List Int → List (List Int) → List (List Int) × Int
  | [], _, out => (out, 0)
  | x :: l, rs, out => if x.f1 = item then (if x.f0 ∈ rs then ([], 10) else pickS item l (rs ++ [x.f0]) (out ++ [x.f2])) else pickS item l rs out
def pickV (l : List S31) (item : Int) : List (List Int) × Int := if 300 < l.length then ([], 5) else pickS item l [] []
theorem pick_ev (l : List S31) (item : Int) (hf : ∀ x ∈ l, Fit x.f2) (hl : Sm l) : Ev (fun k => adjudicate_Pick.f k l item) (pickV l item) := by
  unfold adjudicate_Pick.f pickV
  refine Ev.c (fun h => Ev.i (by rw [if_pos (by omega)])) (fun h => ?_)
  rw [if_neg (by omega)]
  have h : ∀ (d i : Nat) (out : List (List Int)) (rs : List Int), l.length - i = d → i ≤ l.length → out.length ≤ i → rs.length ≤ i → Ev (fun k => adjudicate_Pick.l0 k item out rs l (l.length : Int) (i : Int)) (pickS item (l.drop i) rs out) := by
    intro d
    induction d with
    | zero =>
      intro i out rs hd hi ho hr
      rw [List.drop_eq_nil_of_le (by omega)]
      refine Ev.u ?_
      simp only [adjudicate_Pick.l0]
      exact Ev.n (by omega) (Ev.now _)
    | succ d ih =>
      intro i out rs hd hi ho hr
      have hlt : i < l.length := by omega
      have hm : rd_T31 l (i : Int) ∈ l := by
        rw [rd_T31, Int.toNat_natCast, List.getD_eq_getElem?_getD, List.getElem?_eq_getElem hlt]; exact List.getElem_mem hlt
      rw [drop_rdR hlt]
      refine Ev.u ?_
      simp only [adjudicate_Pick.l0, pickS]
      rw [wrap_nat (i := i) (by omega)]
      refine Ev.p (by omega) (Ev.p (by omega) (Ev.p (by omega) (Ev.c (fun h => ?_) (fun h => ?_))))
      · rw [if_pos h]
        refine Ev.bind (contains_ev rs _ (by omega)) (Ev.c (fun q => Ev.i (by rw [if_pos (by simpa using q)])) (fun q => ?_))
        rw [if_neg (by simpa using q)]
        exact Ev.p (by omega) (Ev.s (by rw [slices_Clone_int_int.f]; exact if_pos (hf _ hm)) (Ev.p (by omega) (ih (i + 1) _ _ (by omega) (by omega) (by simp; omega) (by simp; omega))))
      · rw [if_neg h]; exact ih (i + 1) _ _ (by omega) (by omega) (by omega) (by omega)
  exact h _ 0 [] [] rfl (Nat.zero_le _) (by simp) (by simp)
theorem pickS_told (item : Int) (P : List Int → Prop) : ∀ (l : List S31) (rs : List Int) (out : List (List Int)), (∀ x ∈ l, P x.f2) → (∀ m ∈ out, P m) → (∀ m ∈ (pickS item l rs out).1, P m) ∧ (pickS item l rs out).1.length ≤ out.length + l.length
  | [], rs, out, _, ho => ⟨ho, by simp [pickS]⟩
  | x :: l, rs, out, hl, ho => by
    have hl' : ∀ y ∈ l, P y.f2 := fun y hy => hl y (List.mem_cons_of_mem _ hy)
    simp only [pickS]
    by_cases h : x.f1 = item
    · rw [if_pos h]
      by_cases h2 : x.f0 ∈ rs
      · rw [if_pos h2]; exact ⟨fun m hm => (by cases hm), by simp⟩
      · rw [if_neg h2]
        have q := pickS_told item P l (rs ++ [x.f0]) (out ++ [x.f2]) hl' (fun m hm => by
          rcases List.mem_append.1 hm with hm | hm
          · exact ho m hm
          · rw [List.mem_singleton.1 hm]; exact hl x (List.mem_cons_self ..))
        exact ⟨q.1, by have := q.2; simp at this ⊢; omega⟩
    · rw [if_neg h]
      have q := pickS_told item P l rs out hl' ho
      exact ⟨q.1, by have := q.2; simp at this ⊢; omega⟩
theorem pickV_told {l : List S31} {item : Int} (hf : ∀ x ∈ l, Fit x.f2) : (∀ m ∈ (pickV l item).1, Fit m) ∧ (pickV l item).1.length ≤ l.length := by
  unfold pickV
  split
  · exact ⟨fun m hm => (by simp at hm), by simp⟩
  · have q := pickS_told item (fun m => Fit m) l [] [] hf (fun m hm => by cases hm)
    exact ⟨q.1, by have := q.2; simpa using this⟩
def essayV (g u id : Int) (ts : List S59) (l : List S31) (item : Int) : Int × Int := if (pickV l item).2 = 0 then scoreV g u id ts (pickV l item).1 else (0, (pickV l item).2)
theorem essay_ev (g u id : Int) (ts : List S59) (l : List S31) (item : Int) (hn : namesFit ts = true) (hf : ∀ x ∈ l, Fit x.f2) (hl : Sm l) : Ev (fun k => adjudicate_Essay.f k g u id ts l item) (essayV g u id ts l item) := by
  unfold adjudicate_Essay.f essayV
  refine Ev.bind (pick_ev l item hf hl) (Ev.c (fun h => ?_) (fun h => Ev.i (by rw [if_neg h])))
  rw [if_pos h]
  exact Ev.bind (score_ev g u id ts _ hn (by have := (pickV_told (item := item) hf).2; omega)) (Ev.now _)
theorem equal_ev (l : List (List Int)) (hl : Sm l) (hm : ∀ m ∈ l, Fit m) : Ev (fun k => examboardlaw43_equal.f k l l) true := by
  have h : ∀ (d i : Nat), l.length - i = d → i ≤ l.length → Ev (fun k => examboardlaw43_equal.l0 k l l (l.length : Int) (i : Int)) true := by
    intro d
    induction d with
    | zero =>
      intro i hd hi
      refine Ev.u ?_
      simp only [examboardlaw43_equal.l0]
      exact Ev.n (by omega) (Ev.now _)
    | succ d ih =>
      intro i hd hi
      have hlt : i < l.length := by omega
      have hf : Fit (rd_L1 l (i : Int)) := by
        refine hm _ ?_
        rw [rd_L1, Int.toNat_natCast, List.getD_eq_getElem?_getD, List.getElem?_eq_getElem hlt]; exact List.getElem_mem hlt
      refine Ev.u ?_
      simp only [examboardlaw43_equal.l0]
      refine Ev.p (by omega) (Ev.p (by omega) (Ev.p (by omega) (Ev.p (by omega) (Ev.p trivial ?_))))
      have h2 : ∀ (d j : Nat), (rd_L1 l (i : Int)).length - j = d → j ≤ (rd_L1 l (i : Int)).length → Ev (fun k => examboardlaw43_equal.l1 k l l (i : Int) (l.length : Int) (i : Int) ((rd_L1 l (i : Int)).length : Int) (j : Int)) true := by
        intro d
        induction d with
        | zero =>
          intro j hd hj
          refine Ev.u ?_
          simp only [examboardlaw43_equal.l1]
          rw [wrap_nat (i := i) (by omega)]
          exact Ev.n (by omega) (ih (i + 1) (by omega) (by omega))
        | succ d ih2 =>
          intro j hd hj
          refine Ev.u ?_
          simp only [examboardlaw43_equal.l1]
          rw [wrap_nat (i := j) (by omega)]
          exact Ev.p (by omega) (Ev.p (by omega) (Ev.p (by omega) (Ev.p (by omega) (Ev.p (by omega) (Ev.p (by omega) (Ev.p (by omega) (Ev.p trivial (ih2 (j + 1) (by omega) (by omega)))))))))
      exact h2 _ 0 rfl (Nat.zero_le _)
  unfold examboardlaw43_equal.f
  exact Ev.p rfl (h _ 0 rfl (Nat.zero_le _))
theorem marks_fit {l : List S31} (h : RowOk 40 RatingFits l) : ∀ x ∈ l, Fit x.f2 := fun x hx => by
  have q : x.f2.length * 8 ≤ 140737488351232 := (h.2 x hx).2.2.1
  unfold Fit; omega
end Go.Proofs.Ytkajeeikpffioaa.Spec
