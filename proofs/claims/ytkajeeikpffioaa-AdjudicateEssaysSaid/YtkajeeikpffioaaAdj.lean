/- What the program's Median, Agree, Need, Score, Pick and Essay answer, in plain words. -/
import Derived.Test.YtkajeeikpffioaaSpec
set_option linter.unusedVariables false
namespace Go.Proofs.Ytkajeeikpffioaa.Spec
open Go.RowKit Go.Proofs.YtkajeeikpffioaaW.PrintWords Go.Proofs.YtkajeeikpffioaaW.PrintMore Go.Proofs.Ytkajeeikpffioaa.All
def midV (a b c : Int) : Int := max (min a b) (min (max a b) c)
def medS : List Int → List Int → List Int → List Int
 | a :: al, b :: bl, c :: cl => midV a b c :: medS al bl cl
 | _, _, _ => []
theorem medS_length : ∀ {a b c : List Int}, a.length = b.length → a.length = c.length → (medS a b c).length = a.length
 | [], [], [], _, _ => rfl
 | [], _ :: _, _, h, _ => by simp at h
 | [], [], _ :: _, _, h => by simp at h
 | _ :: _, [], _, h, _ => by simp at h
 | _ :: _, _ :: _, [], _, h => by simp at h
 | x :: a, y :: b, z :: c, h1, h2 => by simp only [medS, List.length_cons]; rw [medS_length (by simpa using h1) (by simpa using h2)]
def medianV (id : Int) (ts : List S59) (x y z : List Int) : List Int × Int := if firstV id ts [x, y, z] = 0 then (medS x y z, 0) else ([], firstV id ts [x, y, z])
theorem first3 {id : Int} {ts : List S59} {x y z : List Int} (h : firstV id ts [x, y, z] = 0) : checkV id ts x = 0 ∧ checkV id ts y = 0 ∧ checkV id ts z = 0 := by
 simp only [firstV] at h
 by_cases h1 : checkV id ts x = 0
 ·
  rw [if_pos h1] at h
  by_cases h2 : checkV id ts y = 0
  ·
   rw [if_pos h2] at h
   by_cases h3 : checkV id ts z = 0
   ·
    exact ⟨h1, h2, h3⟩
   ·
    rw [if_neg h3] at h; exact absurd h h3
  ·
   rw [if_neg h2] at h; exact absurd h h2
 ·
  rw [if_neg h1] at h; exact absurd h h1
theorem median_ev (id : Int) (ts : List S59) (x y z : List Int) (hn : namesFit ts = true) : Ev (fun k => rubric_Median.f k id ts x y z) (medianV id ts x y z) := by
 unfold rubric_Median.f medianV
 refine Ev.bind (checkAll_ev id ts [x, y, z] hn (by simp)) (Ev.c (fun h0 => ?_) (fun h0 => Ev.i (by rw [if_neg h0])))
 rw [if_pos h0]
 obtain ⟨hx, hy, hz⟩ := first3 h0
 obtain ⟨v0, hlx, hfx⟩ := ckt hx
 obtain ⟨_, hly, _⟩ := ckt hy
 obtain ⟨_, hlz, _⟩ := ckt hz
 obtain ⟨h6, _, ht⟩ := vlt v0
 refine Ev.p (by omega) (Ev.p (by omega) (Ev.s rfl ?_))
 rw [List.length_replicate, Int.toNat_natCast]
 have hml := medS_length (a := x) (b := y) (c := z) (by omega) (by omega)
 have h : ∀ (d i : Nat) (o : List Int), x.length - i = d → i ≤ x.length → o.length = x.length → Ev (fun k => rubric_Median.l0 k x y z o (x.length : Int) (i : Int)) (o.take i ++ medS (x.drop i) (y.drop i) (z.drop i), 0) := by
  intro d
  induction d with
  | zero =>
   intro i o hd hi ho
   rw [show x.drop i = [] from List.drop_eq_nil_of_le (by omega), List.take_of_length_le (by omega)]
   refine Ev.u ?_
   simp only [rubric_Median.l0]
   exact Ev.n (by omega) (Ev.i (by simp [medS]))
  | succ d ih =>
   intro i o hd hi ho
   have hlt : i < x.length := by omega
   rw [drop_rd hlt, drop_rd (l := y) (i := i) (by omega), drop_rd (l := z) (i := i) (by omega)]
   refine Ev.u ?_
   simp only [rubric_Median.l0, medS]
   rw [wrap_nat (i := i) (by omega), mx_is, mx_is, mn_is, mn_is]
   refine Ev.p (by omega) (Ev.p (by omega) (Ev.p (by omega) (Ev.p (by omega) (Ev.p (by omega) (Ev.p (by omega) ?_)))))
   have q := ih (i + 1) (o.set i (midV (rd x (i : Int)) (rd y (i : Int)) (rd z (i : Int)))) (by omega) (by omega) (by simpa using ho)
   have e : (o.set i (midV (rd x (i : Int)) (rd y (i : Int)) (rd z (i : Int)))).take (i + 1) = o.take i ++ [midV (rd x (i : Int)) (rd y (i : Int)) (rd z (i : Int))] := by
    rw [List.take_succ_eq_append_getElem (by simp; omega)]
    have e2 : ∀ v : Int, (o.set i v).take i = o.take i := fun v => by
     apply List.ext_getElem (by simp)
     intro j h1 h2
     simp only [List.length_take] at h2
     rw [List.getElem_take, List.getElem_take, List.getElem_set_ne (by omega)]
    rw [e2]; simp
   rw [e, List.append_assoc, List.singleton_append] at q
   exact q
 have h1 := h _ 0 (List.replicate x.length 0) rfl (Nat.zero_le _) (by simp)
 simpa using h1
def ruleV (g u : Int) : Int := if g < 0 ∨ 10 < g then 3 else if u < 1 ∨ 3 < u then 1 else 0
theorem rule_ev (g u : Int) : Ev (fun k => adjudicate_Valid.f k g u) (ruleV g u) := by
 have h : Ev (fun k => adjudicate_Valid.j0 k (decide (g < 0 ∨ 10 < g)) g u) (ruleV g u) := by
  refine Ev.u ?_
  simp only [adjudicate_Valid.j0, decide_eq_true_eq]
  unfold ruleV
  refine Ev.c (fun h => Ev.i (by rw [if_pos h])) (fun h => ?_)
  rw [if_neg h]
  exact Ev.c (fun h => Ev.i (by rw [if_pos (by omega)])) (fun h => Ev.c (fun h => Ev.i (by rw [if_pos (by omega)])) (fun h => Ev.i (by rw [if_neg (by omega)])))
 unfold adjudicate_Valid.f
 refine Ev.c (fun q => ?_) (fun q => ?_)
 ·
  rwa [show decide (g < 0 ∨ 10 < g) = true from decide_eq_true (by omega)] at h
 ·
  rwa [show decide (g < 0 ∨ 10 < g) = decide (g > 10) from decide_eq_decide.2 (by omega)] at h
def agreeV (g u id : Int) (ts : List S59) (x y : List Int) : Bool × Int :=
 if ruleV g u = 0 then (if (apartV id ts x y).2 = 0 then (decide ((apartV id ts x y).1 ≤ g), 0) else (false, (apartV id ts x y).2)) else (false, ruleV g u)
theorem agree_ev (g u id : Int) (ts : List S59) (x y : List Int) (hn : namesFit ts = true) : Ev (fun k => adjudicate_Agree.f k g u id ts x y) (agreeV g u id ts x y) := by
 unfold adjudicate_Agree.f agreeV
 refine Ev.bind (rule_ev g u) (Ev.c (fun h => ?_) (fun h => Ev.i (by rw [if_neg h])))
 rw [if_pos h]
 exact Ev.bind (apart_ev id ts x y hn) (Ev.c (fun h => Ev.i (by rw [if_pos h])) (fun h => Ev.i (by rw [if_neg h])))
def ratingsV (g u id : Int) (ts : List S59) (l : List (List Int)) : Int := if ruleV g u = 0 then (if validV id ts = 0 then (if 3 < l.length then 5 else firstV id ts l) else validV id ts) else ruleV g u
theorem ratings_ev (g u id : Int) (ts : List S59) (l : List (List Int)) (hn : namesFit ts = true) (hs : Sm l) : Ev (fun k => adjudicate_check.f k g u id ts l) (ratingsV g u id ts l) := by
 unfold adjudicate_check.f ratingsV
 refine Ev.bind (rule_ev g u) (Ev.c (fun h => ?_) (fun h => Ev.i (by rw [if_neg h])))
 rw [if_pos h]
 refine Ev.s (valid_is hn) (Ev.c (fun h => ?_) (fun h => Ev.i (by rw [if_neg h])))
 rw [if_pos h]
 refine Ev.c (fun h => Ev.i (by rw [if_pos (by omega)])) (fun h => ?_)
 rw [if_neg (by omega)]
 have h : ∀ (d i : Nat), l.length - i = d → i ≤ l.length → Ev (fun k => adjudicate_check.l0 k l (l.length : Int) (i : Int) id ts) (firstV id ts (l.drop i)) := by
  intro d
  induction d with
  | zero =>
   intro i hd hi
   rw [List.drop_eq_nil_of_le (by omega)]
   refine Ev.u ?_
   simp only [adjudicate_check.l0]
   exact Ev.n (by omega) (Ev.now _)
  | succ d ih =>
   intro i hd hi
   have hlt : i < l.length := by omega
   rw [drop_rdL hlt]
   refine Ev.u ?_
   simp only [adjudicate_check.l0, firstV]
   rw [wrap_nat (i := i) (by omega)]
   refine Ev.p (by omega) (Ev.p (by omega) (Ev.p (by omega) (Ev.bind (check_ev id ts _ hn) (Ev.c (fun h => ?_) (fun h => Ev.i (by rw [if_neg h]))))))
   rw [if_pos h]; exact ih (i + 1) (by omega) (by omega)
 exact h _ 0 rfl (Nat.zero_le _)
theorem rgt {g u id : Int} {ts : List S59} {l : List (List Int)} (h : ratingsV g u id ts l = 0) : ruleV g u = 0 ∧ validV id ts = 0 ∧ l.length ≤ 3 ∧ firstV id ts l = 0 := by
 unfold ratingsV at h
 by_cases h1 : ruleV g u = 0
 ·
  rw [if_pos h1] at h
  by_cases h2 : validV id ts = 0
  ·
   rw [if_pos h2] at h
   by_cases h3 : 3 < l.length
   ·
    rw [if_pos h3] at h; exact absurd h (by decide)
   ·
    rw [if_neg h3] at h; exact ⟨h1, h2, by omega, h⟩
  ·
   rw [if_neg h2] at h; exact absurd h h2
 ·
  rw [if_neg h1] at h; exact absurd h h1
theorem fsm {id : Int} {ts : List S59} : ∀ {l : List (List Int)}, firstV id ts l = 0 → ∀ m ∈ l, checkV id ts m = 0
 | a :: l, h, m, hm => by
  simp only [firstV] at h
  by_cases h1 : checkV id ts a = 0
  ·
   rw [if_pos h1] at h
   rcases List.mem_cons.1 hm with rfl | hm
   ·
    exact h1
   ·
    exact fsm h m hm
  ·
   rw [if_neg h1] at h; exact absurd h h1
def needV (g u id : Int) (ts : List S59) (l : List (List Int)) : Int × Int :=
 if ratingsV g u id ts l = 0 then (match l with
  | [] => (2, 0)
  | [_] => (1, 0)
  | [x, y] => if (agreeV g u id ts x y).1 = true then (0, 0) else (1, 0)
  | _ => (0, 0)) else (0, ratingsV g u id ts l)
theorem need_ev (g u id : Int) (ts : List S59) (l : List (List Int)) (hn : namesFit ts = true) (hs : Sm l) : Ev (fun k => adjudicate_Need.f k g u id ts l) (needV g u id ts l) := by
 unfold adjudicate_Need.f needV
 refine Ev.bind (ratings_ev g u id ts l hn hs) (Ev.c (fun h => ?_) (fun h => Ev.i (by rw [if_neg h])))
 rw [if_pos h]
 have h3 := (rgt h).2.2.1
 match l, h3 with
 | [], _ =>
  refine Ev.p (by simp) (Ev.u ?_)
  simp only [adjudicate_Need.j0]
  exact Ev.p (by simp) (Ev.i (by show (wrap64 (2 - 0), (0 : Int)) = (2, 0); rw [wrap_in (by omega) (by omega)]; rfl))
 | [x], _ =>
  refine Ev.n (by simp) (Ev.u ?_)
  simp only [adjudicate_Need.j0]
  exact Ev.p (by simp) (Ev.i (by show (wrap64 (2 - 1), (0 : Int)) = (1, 0); rw [wrap_in (by omega) (by omega)]; rfl))
 | [x, y], _ =>
  refine Ev.n (by simp) (Ev.u ?_)
  simp only [adjudicate_Need.j0]
  refine Ev.n (by simp) (Ev.n (by simp) (Ev.p (by simp) (Ev.p (by simp) ?_)))
  exact Ev.bind (agree_ev g u id ts x y hn) (Ev.c (fun h => Ev.i (by rw [if_pos h])) (fun h => Ev.i (by rw [if_neg h])))
 | [x, y, z], _ =>
  refine Ev.n (by simp) (Ev.u ?_)
  simp only [adjudicate_Need.j0]
  exact Ev.n (by simp) (Ev.p (by simp) (Ev.now _))
def thirdV (u : Int) (id : Int) (ts : List S59) (x y z : List Int) : Int :=
 if u = 1 then 2 * totalS z ts else if u = 2 then (if max (totalS y ts - totalS z ts) (totalS z ts - totalS y ts) < max (totalS x ts - totalS z ts) (totalS z ts - totalS x ts) then totalS y ts + totalS z ts else totalS x ts + totalS z ts)
 else 2 * totalS (medS x y z) ts
def scoreV (g u id : Int) (ts : List S59) (l : List (List Int)) : Int × Int :=
 if (needV g u id ts l).2 = 0 then (if (needV g u id ts l).1 > 0 then (0, 22) else (match l with
  | [x, y] => (totalS x ts + totalS y ts, 0)
  | [x, y, z] => if (agreeV g u id ts x y).1 = true then (0, 21) else (thirdV u id ts x y z, 0)
  | _ => (0, 0))) else (0, (needV g u id ts l).2)
theorem total_le : ∀ {ms : List Int} {ts : List S59}, ms.length = ts.length → fitsV ms ts = true → (∀ t ∈ ts, traitOk t) → 0 ≤ totalS ms ts ∧ totalS ms ts ≤ 100 * (ts.length : Int)
 | [], [], _, _, _ => by simp [totalS]
 | [], _ :: _, h, _, _ => by simp at h
 | _ :: _, [], h, _, _ => by simp at h
 | m :: ms, t :: ts, hl, hf, ht => by
  have q := fmk hl hf ht m (List.mem_cons_self ..)
  have q2 := ht t (List.mem_cons_self ..)
  simp only [fitsV, Bool.and_eq_true] at hf
  have ih := total_le (ms := ms) (ts := ts) (by simpa using hl) hf.2 (fun u hu => ht u (List.mem_cons_of_mem _ hu))
  have q3 := mul_mark q.1 q.2 q2.2.1 q2.2.2
  simp only [totalS, List.length_cons]; omega
theorem tsh {id : Int} {ts : List S59} {ms : List Int} (h : checkV id ts ms = 0) : 0 ≤ totalS ms ts ∧ totalS ms ts ≤ 600 := by
 obtain ⟨v0, hl, hf⟩ := ckt h
 obtain ⟨h6, _, ht⟩ := vlt v0
 have := total_le hl hf ht
 omega
theorem med_fits : ∀ {x y z : List Int} {ts : List S59}, x.length = ts.length → y.length = ts.length → z.length = ts.length → fitsV x ts = true → fitsV y ts = true → fitsV z ts = true → fitsV (medS x y z) ts = true
 | [], _, _, _, _, _, _, _, _, _ => by simp [medS, fitsV]
 | _ :: _, [], _, ts, h1, h2, _, _, _, _ => by cases ts <;> simp_all
 | _ :: _, _ :: _, [], ts, h1, _, h3, _, _, _ => by cases ts <;> simp_all
 | a :: x, b :: y, c :: z, [], h1, _, _, _, _, _ => by simp at h1
 | a :: x, b :: y, c :: z, t :: ts, h1, h2, h3, f1, f2, f3 => by
  simp only [fitsV, Bool.and_eq_true, decide_eq_true_eq] at f1 f2 f3
  simp only [medS, fitsV, Bool.and_eq_true, decide_eq_true_eq]
  refine ⟨?_, med_fits (by simpa using h1) (by simpa using h2) (by simpa using h3) f1.2 f2.2 f3.2⟩
  unfold midV; omega
theorem med_check {id : Int} {ts : List S59} {x y z : List Int} (hx : checkV id ts x = 0) (hy : checkV id ts y = 0) (hz : checkV id ts z = 0) : checkV id ts (medS x y z) = 0 := by
 obtain ⟨v0, lx, fx⟩ := ckt hx
 obtain ⟨_, ly, fy⟩ := ckt hy
 obtain ⟨_, lz, fz⟩ := ckt hz
 rw [checkV, if_pos v0, if_pos (by rw [medS_length (by omega) (by omega)]; exact lx), if_pos (med_fits lx ly lz fx fy fz)]
theorem total_is {id : Int} {ts : List S59} {ms : List Int} (h : checkV id ts ms = 0) : totalV id ts ms = (totalS ms ts, 0) := by rw [totalV, if_pos h]
theorem score_ev (g u id : Int) (ts : List S59) (l : List (List Int)) (hn : namesFit ts = true) (hs : Sm l) : Ev (fun k => adjudicate_Score.f k g u id ts l) (scoreV g u id ts l) := by
 unfold adjudicate_Score.f scoreV
 refine Ev.bind (need_ev g u id ts l hn hs) (Ev.c (fun h => ?_) (fun h => Ev.i (by rw [if_neg h])))
 rw [if_pos h]
 refine Ev.c (fun h2 => Ev.i (by rw [if_pos h2])) (fun h2 => ?_)
 rw [if_neg h2]
 have h0 : ratingsV g u id ts l = 0 := by
  by_cases q : ratingsV g u id ts l = 0
  ·
   exact q
  ·
   unfold needV at h; rw [if_neg q] at h; exact absurd h q
 obtain ⟨hr, hv, h3, hf⟩ := rgt h0
 match l, h3 with
 | [], _ => unfold needV at h2; rw [if_pos h0] at h2; exact absurd (show (2 : Int) > 0 by decide) h2
 | [x], _ => unfold needV at h2; rw [if_pos h0] at h2; exact absurd (show (1 : Int) > 0 by decide) h2
 | [x, y], _ =>
  have hx := fsm hf x (by simp)
  have hy := fsm hf y (by simp)
  have tx := tsh hx; have ty := tsh hy
  refine Ev.p (by simp) (Ev.p (by simp) (Ev.bind (agree_ev g u id ts x y hn) (Ev.bind (total_ev id ts x hn) (Ev.bind (total_ev id ts y hn) ?_))))
  rw [total_is hx, total_is hy]
  refine Ev.u ?_
  simp only [adjudicate_Score.j0]
  exact Ev.p (by simp) (Ev.i (by rw [wrap_in (by omega) (by omega)]))
 | [x, y, z], _ =>
  have hx := fsm hf x (by simp)
  have hy := fsm hf y (by simp)
  have hz := fsm hf z (by simp)
  have tx := tsh hx; have ty := tsh hy; have tz := tsh hz
  refine Ev.p (by simp) (Ev.p (by simp) (Ev.bind (agree_ev g u id ts x y hn) (Ev.bind (total_ev id ts x hn) (Ev.bind (total_ev id ts y hn) ?_))))
  rw [total_is hx, total_is hy]
  refine Ev.u ?_
  simp only [adjudicate_Score.j0]
  refine Ev.n (by simp) (Ev.c (fun h => Ev.i (by rw [if_pos h])) (fun h => Ev.p (by simp) ?_))
  rw [if_neg h]
  refine Ev.bind (total_ev id ts z hn) ?_
  rw [total_is hz]
  refine Ev.u ?_
  simp only [adjudicate_Score.j1, beq_iff_eq]
  unfold thirdV
  refine Ev.c (fun h => Ev.i (by rw [if_pos h, wrap_in (by omega) (by omega)])) (fun h => ?_)
  rw [if_neg h]
  refine Ev.c (fun h => ?_) (fun h => ?_)
  ·
   rw [if_pos h]
   refine Ev.s rfl (Ev.s rfl ?_)
   rw [mx_is, mx_is, wrap_in (n := totalS y ts - totalS z ts) (by omega) (by omega), wrap_in (n := totalS z ts - totalS y ts) (by omega) (by omega), wrap_in (n := totalS x ts - totalS z ts) (by omega) (by omega), wrap_in (n := totalS z ts - totalS x ts) (by omega) (by omega)]
   exact Ev.c (fun h => Ev.i (by rw [if_pos h, wrap_in (by omega) (by omega)])) (fun h => Ev.i (by rw [if_neg h, wrap_in (by omega) (by omega)]))
  ·
   rw [if_neg h]
   have hm := med_check hx hy hz
   have tm := tsh hm
   refine Ev.p (by simp) (Ev.p (by simp) (Ev.p (by simp) (Ev.bind (median_ev id ts x y z hn) ?_)))
   rw [medianV, if_pos hf]
   refine Ev.bind (total_ev id ts (medS x y z) hn) ?_
   rw [total_is hm]
   exact Ev.i (by rw [wrap_in (by omega) (by omega)])
end Go.Proofs.Ytkajeeikpffioaa.Spec
