/- Ratings of other items affect neither the ratings nor the score of an item: the plain statement. -/
import Derived.Test.YtkajeeikpffioaaAllx19
import Derived.Test.YtkajeeikpffioaaOpens
import Derived.Test.YtkajeeikpffioaaPick
set_option linter.unusedVariables false
namespace Go.Proofs.Ytkajeeikpffioaa.Pure
open Go.RowKit Go.Proofs.YtkajeeikpffioaaW.PrintWords Go.Proofs.Ytkajeeikpffioaa.All Go.Proofs.Ytkajeeikpffioaa.Opener Go.Proofs.Ytkajeeikpffioaa.Spec
theorem pickS_filter (item : Int) : ∀ (l : List S31) (rs : List Int) (out : List (List Int)), pickS item (l.filter fun x => decide (x.f1 = item)) rs out = pickS item l rs out
  | [], _, _ => rfl
  | x :: l, rs, out => by
    by_cases h : x.f1 = item
    · rw [List.filter_cons_of_pos (by simpa using h)]
      simp only [pickS]
      rw [if_pos h, if_pos h, pickS_filter item l]
    · rw [List.filter_cons_of_neg (by simpa using h), pickS_filter item l]
      simp only [pickS]
      rw [if_neg h]
theorem pickS_len (item : Int) : ∀ (l : List S31) (rs : List Int) (out : List (List Int)), (pickS item l rs out).2 = 0 → (pickS item l rs out).1.length = out.length + (l.filter fun x => decide (x.f1 = item)).length
  | [], _, _, _ => by simp [pickS]
  | x :: l, rs, out, h0 => by
    simp only [pickS] at h0 ⊢
    by_cases h : x.f1 = item
    · rw [if_pos h] at h0 ⊢
      rw [List.filter_cons_of_pos (by simpa using h)]
      by_cases h2 : x.f0 ∈ rs
      · rw [if_pos h2] at h0; exact absurd h0 (by simp)
      · rw [if_neg h2] at h0 ⊢
        rw [pickS_len item l _ _ h0]; simp; omega
    · rw [if_neg h] at h0 ⊢
      rw [List.filter_cons_of_neg (by simpa using h), pickS_len item l _ _ h0]
theorem pickS_err (item : Int) : ∀ (l : List S31) (rs : List Int) (out : List (List Int)), (pickS item l rs out).2 ≠ 0 → pickS item l rs out = ([], 10)
  | [], _, _, h => absurd rfl h
  | x :: l, rs, out, h0 => by
    simp only [pickS] at h0 ⊢
    by_cases h : x.f1 = item
    · rw [if_pos h] at h0 ⊢
      by_cases h2 : x.f0 ∈ rs
      · rw [if_pos h2]
      · rw [if_neg h2] at h0 ⊢; exact pickS_err item l _ _ h0
    · rw [if_neg h] at h0 ⊢; exact pickS_err item l _ _ h0
theorem names_fit {id : Int} {ts : List S59} (h : RubricFits (id, ts)) : namesFit ts = true := by
  unfold namesFit
  rw [List.all_eq_true]
  intro t ht
  exact decide_eq_true (h.2.2 t ht).1
theorem marks_fit {l : List S31} (h : RowOk 40 RatingFits l) : ∀ x ∈ l, Fit x.f2 := fun x hx => by
  have q : x.f2.length * 8 ≤ 140737488351232 := (h.2 x hx).2.2.1
  unfold Fit; omega
theorem AdjudicateOthers (g u id : Int) (ts : List S59) (l : List S31) (item : Int) (hA : IntOk g ∧ IntOk u) (hB : RubricFits (id, ts)) (hL : RowOk 40 RatingFits l) (_ : IntOk item) :
    ∃ k, examboardlaw43_AdjudicateOthers.f k g u id ts l item = some true := by
  have hn := names_fit hB
  have hf := marks_fit hL
  have hs : Sm l := by have q : l.length * 40 ≤ 140737488351232 := hL.1; unfold Sm; omega
  refine Ev.rounds (g := fun k => examboardlaw43_AdjudicateOthers.f k g u id ts l item) ?_
  have haw : Ev (fun k => (examboardlaw43_awake.f k).bind fun t => some t) true := Ev.bind awake_ev (Ev.now _)
  unfold examboardlaw43_AdjudicateOthers.f
  refine Ev.iteC (fun _ => haw) (fun h3 => ?_)
  have h300 : ¬ 300 < l.length := by omega
  have hfl : (l.filter fun x => decide (x.f1 = item)).length ≤ l.length := List.length_filter_le ..
  have hpk : pickV (l.filter fun x => decide (x.f1 = item)) item = pickV l item := by
    unfold pickV; rw [if_neg h300, if_neg (by omega), pickS_filter]
  have hfin : Ev (fun k => examboardlaw43_AdjudicateOthers.l0 k l item (l.filter fun x => decide (x.f1 = item)) l (l.length : Int) (l.length : Int) g u id ts) true := by
    have hf' : ∀ x ∈ l.filter (fun x => decide (x.f1 = item)), Fit x.f2 := fun x hx => hf x (List.mem_filter.1 hx).1
    have hpt := pickV_told (item := item) hf
    have e1 := pick_ev (l.filter fun x => decide (x.f1 = item)) item hf' (by omega)
    have e2 := essay_ev g u id ts (l.filter fun x => decide (x.f1 = item)) item hn hf' (by omega)
    have e3 : essayV g u id ts (l.filter fun x => decide (x.f1 = item)) item = essayV g u id ts l item := by unfold essayV; rw [hpk]
    rw [hpk] at e1
    rw [e3] at e2
    refine Ev.up ?_
    simp only [examboardlaw43_AdjudicateOthers.l0]
    refine Ev.iteN (by omega) (Ev.bind (pick_ev l item hf hs) (Ev.bind e1 (Ev.bind (essay_ev g u id ts l item hn hf hs) (Ev.bind e2 (Ev.bind (equal_ev _ (by omega) hpt.1) ?_)))))
    refine Ev.iteP rfl (Ev.iteP rfl (Ev.iteP rfl ?_))
    refine Ev.up ?_
    simp only [examboardlaw43_AdjudicateOthers.j1]
    refine Ev.iteN (by simp) (Ev.iteC (fun h0 => ?_) (fun h0 => ?_))
    · have e4 : essayV g u id ts l item = scoreV g u id ts (pickV l item).1 := by unfold essayV; rw [if_pos h0]
      rw [e4]
      refine Ev.bind (score_ev g u id ts _ hn (by omega)) ?_
      have hlen : (pickV l item).1.length = (l.filter fun x => decide (x.f1 = item)).length := by
        unfold pickV at h0 ⊢
        rw [if_neg h300] at h0 ⊢
        rw [pickS_len item l [] [] h0]; simp
      exact Ev.iteP (by omega) (Ev.iteP rfl (Ev.iteP rfl haw))
    · have e4 : pickV l item = ([], 10) := by
        unfold pickV at h0 ⊢
        rw [if_neg h300] at h0 ⊢
        exact pickS_err item l [] [] h0
      have e5 : essayV g u id ts l item = (0, 10) := by unfold essayV; rw [if_neg h0, e4]
      rw [e4, e5]
      exact Ev.iteP rfl (Ev.iteP rfl (Ev.iteP rfl haw))
  have hl : ∀ (d i : Nat), l.length - i = d → i ≤ l.length → Ev (fun k => examboardlaw43_AdjudicateOthers.l0 k l item ((l.take i).filter fun x => decide (x.f1 = item)) l (l.length : Int) (i : Int) g u id ts) true := by
    intro d
    induction d with
    | zero =>
      intro i hd hi
      obtain rfl : i = l.length := by omega
      rw [List.take_of_length_le (Nat.le_refl _)]
      exact hfin
    | succ d ih =>
      intro i hd hi
      have hlt : i < l.length := by omega
      have q := ih (i + 1) (by omega) (by omega)
      have ht : l.take (i + 1) = l.take i ++ [rd_T31 l (i : Int)] := by
        rw [List.take_succ_eq_append_getElem hlt, rd_T31, Int.toNat_natCast, List.getD_eq_getElem?_getD, List.getElem?_eq_getElem hlt]; rfl
      rw [ht, List.filter_append] at q
      have hfl2 : ((l.take i).filter fun x => decide (x.f1 = item)).length ≤ (l.take i).length := List.length_filter_le ..
      have htl : (l.take i).length ≤ l.length := by rw [List.length_take]; omega
      refine Ev.up ?_
      simp only [examboardlaw43_AdjudicateOthers.l0]
      rw [wrap_nat (i := i) (by omega)]
      refine Ev.iteP (by omega) (Ev.iteP (by omega) (Ev.iteP (by omega) (Ev.iteC (fun h => Ev.iteP (by omega) ?_) (fun h => ?_))))
      · rw [List.filter_cons_of_pos (by simpa using h), List.filter_nil] at q
        exact q
      · rw [List.filter_cons_of_neg (by simpa using h), List.filter_nil, List.append_nil] at q
        exact q
  exact hl _ 0 rfl (Nat.zero_le _)
end Go.Proofs.Ytkajeeikpffioaa.Pure
