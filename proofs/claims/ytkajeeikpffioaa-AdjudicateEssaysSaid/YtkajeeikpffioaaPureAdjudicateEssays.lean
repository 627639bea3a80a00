/- Pick and Essay return what the document defines, or the first error: the plain statement. -/
import Derived.Test.YtkajeeikpffioaaAllx21
import Derived.Test.YtkajeeikpffioaaAllx20
import Derived.Test.YtkajeeikpffioaaAllx20
import Derived.Test.YtkajeeikpffioaaAllx21
import Derived.Test.YtkajeeikpffioaaFits
import Derived.Test.YtkajeeikpffioaaPick
import Derived.Test.YtkajeeikpffioaaRefSpec
set_option linter.unusedVariables false
namespace Go.Proofs.Ytkajeeikpffioaa.Pure
open Go.RowKit Go.Proofs.YtkajeeikpffioaaW.PrintWords Go.Proofs.Ytkajeeikpffioaa.All Go.Proofs.Ytkajeeikpffioaa.Opener Go.Proofs.Ytkajeeikpffioaa.Spec
theorem copied_ev (l : List Int) (hl : Fit l) : Ev (fun k => examboardref43_copied.f k l) l := by
 have hl' : l.length < 17592186044416 := hl
 have h : ∀ (d i : Nat), l.length - i = d → i ≤ l.length → Ev (fun k => examboardref43_copied.l0 k (l.take i) l (l.length : Int) (i : Int)) l := by
  intro d
  induction d with
  | zero =>
   intro i hd hi
   refine Ev.u ?_
   simp only [examboardref43_copied.l0]
   exact Ev.n (by omega) (Ev.i (List.take_of_length_le (by omega)))
  | succ d ih =>
   intro i hd hi
   have hlt : i < l.length := by omega
   refine Ev.u ?_
   simp only [examboardref43_copied.l0]
   rw [wrap_nat (i := i) (by omega)]
   have e : l.take i ++ [rd l (i : Int)] = l.take (i + 1) := by
    rw [rd_nat, List.getD_eq_getElem?_getD, List.getElem?_eq_getElem hlt, Option.getD_some, List.take_append_getElem]
   rw [e]
   exact Ev.p (by omega) (Ev.p (by omega) (Ev.p (by omega) (Ev.p (by rw [List.length_take]; omega) (ih (i + 1) (by omega) (by omega)))))
 have h0 := h _ 0 rfl (Nat.zero_le _)
 simpa [examboardref43_copied.f] using h0
def raters (item : Int) (l : List S31) : List Int := (l.filter fun x => decide (x.f1 = item)).map (·.f0)
theorem raters_cons_eq {item : Int} {x : S31} {l : List S31} (h : x.f1 = item) : raters item (x :: l) = x.f0 :: raters item l := by
 unfold raters; rw [List.filter_cons_of_pos (by simpa using h)]; rfl
theorem raters_cons_ne {item : Int} {x : S31} {l : List S31} (h : ¬ x.f1 = item) : raters item (x :: l) = raters item l := by
 unfold raters; rw [List.filter_cons_of_neg (by simpa using h)]
theorem raters_append (item : Int) (a b : List S31) : raters item (a ++ b) = raters item a ++ raters item b := by
 unfold raters; rw [List.filter_append, List.map_append]
theorem rpick_ev (l : List S31) (item : Int) (hf : ∀ x ∈ l, Fit x.f2) (hl : Sm l) : Ev (fun k => examboardref43_Pick.f k l item) (pickV l item) := by
 unfold examboardref43_Pick.f pickV
 refine Ev.c (fun h => Ev.i (by rw [if_pos (by omega)])) (fun h => ?_)
 rw [if_neg (by omega)]
 have h : ∀ (d i : Nat) (out : List (List Int)), l.length - i = d → i ≤ l.length → out.length ≤ i → Ev (fun k => examboardref43_Pick.l0 k l item out l (l.length : Int) (i : Int)) (pickS item (l.drop i) (raters item (l.take i)) out) := by
  intro d
  induction d with
  | zero =>
   intro i out hd hi ho
   rw [List.drop_eq_nil_of_le (by omega)]
   refine Ev.u ?_
   simp only [examboardref43_Pick.l0]
   exact Ev.n (by omega) (Ev.now _)
  | succ d ih =>
   intro i out hd hi ho
   have hlt : i < l.length := by omega
   have hm : rd_T31 l (i : Int) ∈ l := by
    rw [rd_T31, Int.toNat_natCast, List.getD_eq_getElem?_getD, List.getElem?_eq_getElem hlt]; exact List.getElem_mem hlt
   have ht : l.take (i + 1) = l.take i ++ [rd_T31 l (i : Int)] := by
    rw [List.take_succ_eq_append_getElem hlt, rd_T31, Int.toNat_natCast, List.getD_eq_getElem?_getD, List.getElem?_eq_getElem hlt]; rfl
   have hfit := hf _ hm
   rw [drop_rdR hlt]
   refine Ev.u ?_
   simp only [examboardref43_Pick.l0, pickS]
   rw [wrap_nat (i := i) (by omega)]
   have q1 : ∀ o : List (List Int), o.length ≤ i + 1 → Ev (fun k => examboardref43_Pick.l0 k l item o l (l.length : Int) ((i + 1 : Nat) : Int)) (pickS item (l.drop (i + 1)) (raters item (l.take i) ++ raters item [rd_T31 l (i : Int)]) o) := by
    intro o hol
    have q := ih (i + 1) o (by omega) (by omega) hol
    rwa [ht, raters_append] at q
   generalize rd_T31 l (i : Int) = t at q1 hfit ⊢
   refine Ev.p (by omega) (Ev.p (by omega) (Ev.p (by omega) (Ev.c (fun h => ?_) (fun h => ?_))))
   ·
    rw [if_pos h]
    rw [show raters item [t] = [t.f0] by rw [raters_cons_eq h]; rfl] at q1
    -- the ratings before it
    have h1 : ∀ (d j : Nat), i - j = d → j ≤ i → Ev (fun k => examboardref43_Pick.l1 k l item out (i : Int) (j : Int) l (l.length : Int) (i : Int) t.f0 t.f1 t.f2)
      (if t.f0 ∈ raters item ((l.take i).drop j) then ([], 10) else pickS item (l.drop (i + 1)) (raters item (l.take i) ++ [t.f0]) (out ++ [t.f2])) := by
     intro d
     induction d with
     | zero =>
      intro j hd hj
      obtain rfl : j = i := by omega
      rw [List.drop_eq_nil_of_le (by rw [List.length_take]; omega), if_neg (by simp [raters])]
      refine Ev.u ?_
      simp only [examboardref43_Pick.l1]
      rw [wrap_nat (i := j) (by omega)]
      exact Ev.n (by omega) (Ev.bind (copied_ev _ hfit) (Ev.p (by omega) (q1 _ (by simp; omega))))
     | succ d ih2 =>
      intro j hd hj
      have hjl : j < (l.take i).length := by rw [List.length_take]; omega
      have e : (l.take i).drop j = rd_T31 l (j : Int) :: (l.take i).drop (j + 1) := by
       rw [drop_rdR hjl, rd_T31, rd_T31, Int.toNat_natCast, List.getD_eq_getElem?_getD, List.getD_eq_getElem?_getD, List.getElem?_take, if_pos (by omega)]
      rw [e]
      have q := ih2 (j + 1) (by omega) (by omega)
      refine Ev.u ?_
      simp only [examboardref43_Pick.l1]
      rw [wrap_nat (i := j) (by omega)]
      refine Ev.p (by omega) (Ev.p (by omega) (Ev.p (by omega) (Ev.c (fun h2 => ?_) (fun h2 => ?_))))
      ·
       rw [raters_cons_eq h2]
       refine Ev.c (fun h3 => Ev.i ?_) (fun h3 => ?_)
       ·
        rw [if_pos (by rw [h3]; exact List.mem_cons_self ..)]
       ·
        by_cases h4 : t.f0 ∈ raters item ((l.take i).drop (j + 1))
        ·
         rw [if_pos h4] at q; rw [if_pos (List.mem_cons_of_mem _ h4)]; exact q
        ·
         rw [if_neg h4] at q; rw [if_neg (by rw [List.mem_cons]; rintro (h5 | h5); exact h3 h5.symm; exact h4 h5)]; exact q
      ·
       rw [raters_cons_ne h2]; exact q
    have h2 := h1 _ 0 rfl (Nat.zero_le _)
    rw [List.drop_zero] at h2
    exact h2
   ·
    rw [if_neg h]
    rw [show raters item [t] = [] by rw [raters_cons_ne h]; rfl, List.append_nil] at q1
    exact q1 out (by omega)
 have h0 := h _ 0 [] rfl (Nat.zero_le _) (by simp)
 simpa [raters] using h0
theorem ressay_ev (g u id : Int) (ts : List S59) (l : List S31) (item : Int) (hn : namesFit ts = true) (hf : ∀ x ∈ l, Fit x.f2) (hl : Sm l) : Ev (fun k => examboardref43_Essay.f k g u id ts l item) (essayV g u id ts l item) := by
 unfold examboardref43_Essay.f essayV
 refine Ev.bind (rpick_ev l item hf hl) (Ev.c (fun h => ?_) (fun h => Ev.i (by rw [if_neg h])))
 rw [if_pos h]
 exact Ev.bind (rscore_ev g u id ts _ hn (by have := (pickV_told (item := item) hf).2; omega)) (Ev.now _)
theorem AdjudicateEssays (g u id : Int) (ts : List S59) (l : List S31) (item : Int) (hA : IntOk g ∧ IntOk u) (hB : RubricFits (id, ts)) (hL : RowOk 40 RatingFits l) (_ : IntOk item) :
  ∃ k, examboardlaw43_AdjudicateEssays.f k g u id ts l item = some true := by
 have hn := names_fit hB
 have hf := marks_fit hL
 have hsm : Sm l := row_sm hL (by omega)
 have hpt := pickV_told (item := item) hf
 refine Ev.rounds (g := fun k => examboardlaw43_AdjudicateEssays.f k g u id ts l item) ?_
 unfold examboardlaw43_AdjudicateEssays.f
 exact Ev.bind (pick_ev l item hf hsm) (Ev.bind (rpick_ev l item hf hsm) (Ev.bind (essay_ev g u id ts l item hn hf hsm) (Ev.bind (ressay_ev g u id ts l item hn hf hsm) (Ev.bind (equal_ev _ (by omega) hpt.1) (Ev.p rfl (Ev.p rfl (Ev.p rfl (Ev.p rfl aw_ev))))))))
end Go.Proofs.Ytkajeeikpffioaa.Pure
