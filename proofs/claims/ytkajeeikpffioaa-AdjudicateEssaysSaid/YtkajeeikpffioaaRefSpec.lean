/- The reference's functions answer as the plain words say. -/
import Derived.Test.YtkajeeikpffioaaAllx18
import Derived.Test.YtkajeeikpffioaaAllx15
import Derived.Test.YtkajeeikpffioaaAllx14
import Derived.Test.YtkajeeikpffioaaAllx11
import Derived.Test.YtkajeeikpffioaaAllx17
import Derived.Test.YtkajeeikpffioaaAllx16
import Derived.Test.YtkajeeikpffioaaAdj
set_option linter.unusedVariables false
namespace Go.Proofs.Ytkajeeikpffioaa.Spec
open Go.RowKit Go.Proofs.YtkajeeikpffioaaW.PrintWords Go.Proofs.YtkajeeikpffioaaW.PrintMore Go.Proofs.Ytkajeeikpffioaa.All
theorem rrule_ev (g u : Int) : Ev (fun k => examboardref43_Valid.f k g u) (ruleV g u) := by
 have h : Ev (fun k => examboardref43_Valid.j0 k (decide (g < 0 ∨ 10 < g)) g u) (ruleV g u) := by
  refine Ev.u ?_
  simp only [examboardref43_Valid.j0, decide_eq_true_eq]
  unfold ruleV
  refine Ev.c (fun h => Ev.i (by rw [if_pos h])) (fun h => ?_)
  rw [if_neg h]
  exact Ev.c (fun h => Ev.i (by rw [if_neg (by omega)])) (fun h => Ev.c (fun h => Ev.i (by rw [if_neg (by omega)])) (fun h => Ev.c (fun h => Ev.i (by rw [if_neg (by omega)])) (fun h => Ev.i (by rw [if_pos (by omega)]))))
 unfold examboardref43_Valid.f
 refine Ev.c (fun q => ?_) (fun q => ?_)
 ·
  rwa [show decide (g < 0 ∨ 10 < g) = true from decide_eq_true (by omega)] at h
 ·
  rwa [show decide (g < 0 ∨ 10 < g) = decide (g > 10) from decide_eq_decide.2 (by omega)] at h
theorem drop_bytes {s : ByteArray} {i : Nat} (h : i < s.size) : (bytesOf s).drop i = bt s (i : Int) :: (bytesOf s).drop (i + 1) := by
 have hl : i < (bytesOf s).length := by rw [bytesOf_length]; exact h
 have e : (bytesOf s)[i] = bt s (i : Int) := by
  have h1 := rd_bytesOf s (i : Int)
  rw [rd_nat, List.getD_eq_getElem?_getD, List.getElem?_eq_getElem hl] at h1
  exact h1
 rw [← e]; exact List.drop_eq_getElem_cons hl
theorem letters_ev (s : ByteArray) (hs : s.size ≤ 140737488351232) : Ev (fun k => examboardref41_letters.f k s) (nameV s) := by
 have h : ∀ (d i : Nat), s.size - i = d → i ≤ s.size → Ev (fun k => examboardref41_letters.l0 k s (i : Int)) (((bytesOf s).drop i).all letterV && (decide (1 ≤ s.size) && decide (s.size ≤ 20))) := by
  intro d
  induction d with
  | zero =>
   intro i hd hi
   rw [List.drop_eq_nil_of_le (by rw [bytesOf_length]; omega)]
   refine Ev.u ?_
   simp only [examboardref41_letters.l0]
   refine Ev.n (by omega) (Ev.c (fun q => Ev.i ?_) (fun q => Ev.i ?_))
   ·
    rw [show decide (1 ≤ s.size) = true from decide_eq_true (by omega)]
    simp only [List.all_nil, Bool.true_and]
    exact decide_eq_decide.2 (by omega)
   ·
    rw [show decide (1 ≤ s.size) = false from decide_eq_false (by omega)]; simp
  | succ d ih =>
   intro i hd hi
   rw [drop_bytes (by omega), List.all_cons]
   refine Ev.u ?_
   simp only [examboardref41_letters.l0]
   rw [wrap_nat (i := i) (by omega)]
   refine Ev.p (by omega) (Ev.p (by omega) (Ev.c (fun q => Ev.i ?_) (fun q => Ev.c (fun q2 => Ev.i ?_) (fun q2 => ?_))))
   ·
    rw [show letterV (bt s (i : Int)) = false by unfold letterV; rw [decide_eq_false (by omega)]; rfl]; simp
   ·
    rw [show letterV (bt s (i : Int)) = false by unfold letterV; rw [show decide (bt s (i : Int) ≤ 122) = false from decide_eq_false (by omega)]; simp]; simp
   ·
    rw [show letterV (bt s (i : Int)) = true by unfold letterV; rw [decide_eq_true (show 97 ≤ bt s (i : Int) by omega), decide_eq_true (show bt s (i : Int) ≤ 122 by omega)]; rfl, Bool.true_and]
    exact ih (i + 1) (by omega) (by omega)
 have h0 := h _ 0 rfl (Nat.zero_le _)
 simpa [examboardref41_letters.f, nameV] using h0
theorem rvalid_ev (id : Int) (ts : List S59) (hn : namesFit ts = true) : Ev (fun k => examboardref41_Valid.f k id ts) (validV id ts) := by
 have hl : ts.length ≤ 6 → ∀ (d i : Nat), ts.length - i = d → i ≤ ts.length → Ev (fun k => examboardref41_Valid.l0 k (i : Int) id ts) (traitsV (ts.take i) (ts.drop i)) := by
  intro h6 d
  induction d with
  | zero =>
   intro i hd hi
   rw [List.drop_eq_nil_of_le (by omega)]
   refine Ev.u ?_
   simp only [examboardref41_Valid.l0, traitsV]
   exact Ev.n (by omega) (Ev.now _)
  | succ d ih =>
   intro i hd hi
   have hlt : i < ts.length := by omega
   have hm := rdT_mem hlt
   have hsz : (rd_T59 ts (i : Int)).f0.size ≤ 140737488351232 := of_decide_eq_true (List.all_eq_true.1 hn _ hm)
   have ht : ts.take (i + 1) = ts.take i ++ [rd_T59 ts (i : Int)] := by
    rw [List.take_succ_eq_append_getElem hlt, rd_T59, Int.toNat_natCast, List.getD_eq_getElem?_getD, List.getElem?_eq_getElem hlt]; rfl
   rw [drop_rdT hlt]
   refine Ev.u ?_
   simp only [examboardref41_Valid.l0]
   unfold traitsV
   refine Ev.p (by omega) (Ev.p (by omega) (Ev.bind (letters_ev _ hsz) (Ev.c (fun q => ?_) (fun q => Ev.i (by rw [if_pos (by simpa using q)])))))
   rw [if_neg (by rw [q]; simp)]
   have q1 := ih (i + 1) (by omega) (by omega)
   rw [ht] at q1
   generalize rd_T59 ts (i : Int) = t at q1 ⊢
   -- the names before it
   have h1 : ∀ (d j : Nat), i - j = d → j ≤ i → ((ts.take j).any (isNamed t.f0) = false) → Ev (fun k => examboardref41_Valid.l1 k (i : Int) (j : Int) id ts t.f0 t.f1 t.f2) (if (ts.take i).any (isNamed t.f0) = true then 7 else if t.f1 < 1 ∨ t.f1 > 10 ∨ t.f2 < 1 ∨ t.f2 > 10 then 3 else traitsV (ts.take i ++ [t]) (ts.drop (i + 1))) := by
    intro d
    induction d with
    | zero =>
     intro j hd hj hp
     obtain rfl : j = i := by omega
     rw [if_neg (by rw [hp]; simp)]
     refine Ev.u ?_
     simp only [examboardref41_Valid.l1]
     rw [wrap_nat (i := j) (by omega)]
     refine Ev.n (by omega) (Ev.c (fun q => Ev.i (by rw [if_pos (by omega)])) (fun q => Ev.c (fun q => Ev.i (by rw [if_pos (by omega)])) (fun q => Ev.c (fun q => Ev.i (by rw [if_pos (by omega)])) (fun q => Ev.c (fun q => Ev.i (by rw [if_pos (by omega)])) (fun q => ?_)))))
     rw [if_neg (by omega)]; exact q1
    | succ d ih2 =>
     intro j hd hj hp
     have hjl : j < ts.length := by omega
     have htj : ts.take (j + 1) = ts.take j ++ [rd_T59 ts (j : Int)] := by
      rw [List.take_succ_eq_append_getElem hjl, rd_T59, Int.toNat_natCast, List.getD_eq_getElem?_getD, List.getElem?_eq_getElem hjl]; rfl
     refine Ev.u ?_
     simp only [examboardref41_Valid.l1]
     rw [wrap_nat (i := j) (by omega)]
     refine Ev.p (by omega) (Ev.p (by omega) (Ev.p (by omega) (Ev.c (fun q => Ev.i ?_) (fun q => ?_))))
     ·
      rw [if_pos]
      rw [List.any_eq_true]
      refine ⟨rd_T59 ts (j : Int), ?_, by simpa [isNamed] using q⟩
      have hsub : ts.take i = ts.take (j + 1) ++ (ts.drop (j + 1)).take (i - (j + 1)) := by
       rw [← List.take_add, show j + 1 + (i - (j + 1)) = i by omega]
      rw [hsub, htj]; simp
     ·
      refine ih2 (j + 1) (by omega) (by omega) ?_
      rw [htj, List.any_append, hp]
      have hq : isNamed t.f0 (rd_T59 ts (j : Int)) = false := by
       rw [isNamed, beq_eq_false_iff_ne]; exact q
      simp [hq]
   exact h1 _ 0 rfl (Nat.zero_le _) (by simp)
 have h : Ev (fun k => examboardref41_Valid.j0 k (decide (id < 1 ∨ id > 9999999)) id ts) (validV id ts) := by
  refine Ev.u ?_
  simp only [examboardref41_Valid.j0, decide_eq_true_eq]
  unfold validV
  refine Ev.c (fun h => Ev.i (by rw [if_pos h])) (fun h => ?_)
  rw [if_neg h]
  refine Ev.c (fun h => Ev.i (by rw [if_pos (by omega)])) (fun h => ?_)
  rw [if_neg (by omega)]
  refine Ev.c (fun h => Ev.i (by rw [if_pos (by omega)])) (fun h => ?_)
  rw [if_neg (by omega)]
  exact hl (by omega) _ 0 rfl (Nat.zero_le _)
 unfold examboardref41_Valid.f
 refine Ev.c (fun q => ?_) (fun q => ?_)
 ·
  rwa [show decide (id < 1 ∨ id > 9999999) = true from decide_eq_true (by omega)] at h
 ·
  rwa [show decide (id < 1 ∨ id > 9999999) = decide (id > 9999999) from decide_eq_decide.2 (by omega)] at h
theorem rcheck_ev (id : Int) (ts : List S59) (ms : List Int) (hn : namesFit ts = true) : Ev (fun k => examboardref41_Check.f k id ts ms) (checkV id ts ms) := by
 unfold examboardref41_Check.f checkV
 refine Ev.bind (rvalid_ev id ts hn) (Ev.c (fun h0 => ?_) (fun h0 => Ev.i (by rw [if_neg h0])))
 rw [if_pos h0]
 refine Ev.c (fun h1 => ?_) (fun h1 => Ev.i (by rw [if_neg (by omega)]))
 rw [if_pos (by omega)]
 have hl : ms.length = ts.length := by omega
 have h6 := (vlt h0).1
 have h : ∀ (d i : Nat), ms.length - i = d → i ≤ ms.length → Ev (fun k => examboardref41_Check.l0 k ms (i : Int) id ts) (if fitsV (ms.drop i) (ts.drop i) = true then 0 else 3) := by
  intro d
  induction d with
  | zero =>
   intro i hd hi
   rw [List.drop_eq_nil_of_le (by omega)]
   refine Ev.u ?_
   simp only [examboardref41_Check.l0]
   exact Ev.n (by omega) (Ev.i (by simp [fitsV]))
  | succ d ih =>
   intro i hd hi
   have hlt : i < ms.length := by omega
   rw [drop_rd hlt, drop_rdT (l := ts) (i := i) (by omega)]
   refine Ev.u ?_
   simp only [examboardref41_Check.l0]
   rw [wrap_nat (i := i) (by omega)]
   refine Ev.p (by omega) (Ev.p (by omega) (Ev.c (fun h => Ev.i ?_) (fun h => Ev.p (by omega) (Ev.c (fun h' => Ev.i ?_) (fun h' => ?_)))))
   ·
    rw [if_neg (by intro q; simp only [fitsV, Bool.and_eq_true, decide_eq_true_eq] at q; omega)]
   ·
    rw [if_neg (by intro q; simp only [fitsV, Bool.and_eq_true, decide_eq_true_eq] at q; omega)]
   ·
    have q := ih (i + 1) (by omega) (by omega)
    have e : fitsV (rd ms (i : Int) :: ms.drop (i + 1)) (rd_T59 ts (i : Int) :: ts.drop (i + 1)) = fitsV (ms.drop (i + 1)) (ts.drop (i + 1)) := by
     simp only [fitsV]
     rw [show decide (0 ≤ rd ms (i : Int)) = true from decide_eq_true (by omega), show decide (rd ms (i : Int) ≤ (rd_T59 ts (i : Int)).f1) = true from decide_eq_true (by omega)]; simp
    rw [e]; exact q
 exact h _ 0 rfl (Nat.zero_le _)
theorem rapart_ev (id : Int) (ts : List S59) (x y : List Int) (hn : namesFit ts = true) : Ev (fun k => examboardref41_Apart.f k id ts x y) (apartV id ts x y) := by
 have hj : ∀ e : Int, e = firstV id ts [x, y] → Ev (fun k => examboardref41_Apart.j0 k x y e) (apartV id ts x y) := by
  rintro _ rfl
  refine Ev.u ?_
  simp only [examboardref41_Apart.j0]
  unfold apartV
  refine Ev.c (fun h0 => ?_) (fun h0 => Ev.i (by rw [if_neg h0]))
  rw [if_pos h0]
  obtain ⟨hx, hy⟩ := first2 h0
  obtain ⟨v0, hlx, hfx⟩ := ckt hx
  obtain ⟨_, hly, hfy⟩ := ckt hy
  obtain ⟨h6, _, ht⟩ := vlt v0
  have hmx := fmk hlx hfx ht
  have hmy := fmk hly hfy ht
  have h : ∀ (d i : Nat) (s : Int), x.length - i = d → i ≤ x.length → 0 ≤ s → Ev (fun k => examboardref41_Apart.l0 k x y s (i : Int)) (apartS (x.drop i) (y.drop i) s, 0) := by
   intro d
   induction d with
   | zero =>
    intro i s hd hi hs
    rw [List.drop_eq_nil_of_le (by omega)]
    refine Ev.u ?_
    simp only [examboardref41_Apart.l0]
    exact Ev.n (by omega) (Ev.i (by simp [apartS]))
   | succ d ih =>
    intro i s hd hi hs
    have hlt : i < x.length := by omega
    have q := hmx _ (rd_mem hlt)
    have q2 := hmy _ (rd_mem (l := y) (i := i) (by omega))
    have q3 := ih (i + 1) (max (max s (rd x (i : Int) - rd y (i : Int))) (rd y (i : Int) - rd x (i : Int))) (by omega) (by omega) (by omega)
    rw [drop_rd hlt, drop_rd (l := y) (i := i) (by omega)]
    refine Ev.u ?_
    simp only [examboardref41_Apart.l0, apartS]
    rw [wrap_nat (i := i) (by omega), wrap_in (n := rd x (i : Int) - rd y (i : Int)) (by omega) (by omega), wrap_in (n := -(rd x (i : Int) - rd y (i : Int))) (by omega) (by omega)]
    have same : ∀ v : Int, v = max (max s (rd x (i : Int) - rd y (i : Int))) (rd y (i : Int) - rd x (i : Int)) → Ev (fun k => examboardref41_Apart.l0 k x y v ((i + 1 : Nat) : Int)) (apartS (x.drop (i + 1)) (y.drop (i + 1)) (max (max s (rd x (i : Int) - rd y (i : Int))) (rd y (i : Int) - rd x (i : Int))), 0) := fun v e => e ▸ q3
    exact Ev.p (by omega) (Ev.p (by omega) (Ev.p (by omega) (Ev.c (fun _ => Ev.c (fun _ => same _ (by omega)) (fun _ => same _ (by omega))) (fun _ => Ev.c (fun _ => same _ (by omega)) (fun _ => same _ (by omega))))))
  exact h _ 0 0 rfl (Nat.zero_le _) (Int.le_refl _)
 unfold examboardref41_Apart.f
 refine Ev.bind (rcheck_ev id ts x hn) (Ev.c (fun h => Ev.bind (rcheck_ev id ts y hn) (hj _ ?_)) (fun h => hj _ ?_))
 ·
  simp only [firstV]; rw [if_pos h]
  by_cases q : checkV id ts y = 0
  ·
   rw [if_pos q, q]
  ·
   rw [if_neg q]
 ·
  simp only [firstV]; rw [if_neg h]
theorem ragree_ev (g u id : Int) (ts : List S59) (x y : List Int) (hn : namesFit ts = true) : Ev (fun k => examboardref43_Agree.f k g u id ts x y) (agreeV g u id ts x y) := by
 unfold examboardref43_Agree.f agreeV
 refine Ev.bind (rrule_ev g u) (Ev.c (fun h => ?_) (fun h => Ev.i (by rw [if_neg h])))
 rw [if_pos h]
 have e2 : ∀ e : Int, e ≠ 0 → firstV id ts [x, y] = e → apartV id ts x y = (0, e) := by
  intro e he h; unfold apartV; rw [h, if_neg he]
 refine Ev.bind (rcheck_ev id ts x hn) (Ev.c (fun hx => ?_) (fun hx => Ev.i ?_))
 ·
  refine Ev.bind (rcheck_ev id ts y hn) (Ev.c (fun hy => ?_) (fun hy => Ev.i ?_))
  ·
   have hf : firstV id ts [x, y] = 0 := by simp only [firstV]; rw [if_pos hx, if_pos hy]
   refine Ev.bind (rapart_ev id ts x y hn) (Ev.i ?_)
   unfold apartV; rw [if_pos hf]; rfl
  ·
   rw [e2 (checkV id ts y) hy (by simp only [firstV]; rw [if_pos hx, if_neg hy])]; exact (if_neg hy).symm
 ·
  rw [e2 (checkV id ts x) hx (by simp only [firstV]; rw [if_neg hx])]; exact (if_neg hx).symm
theorem rratings_ev (g u id : Int) (ts : List S59) (l : List (List Int)) (hn : namesFit ts = true) (hs : Sm l) : Ev (fun k => examboardref43_checked.f k g u id ts l) (ratingsV g u id ts l) := by
 unfold examboardref43_checked.f ratingsV
 refine Ev.bind (rrule_ev g u) (Ev.c (fun h => ?_) (fun h => Ev.i (by rw [if_neg h])))
 rw [if_pos h]
 refine Ev.bind (rvalid_ev id ts hn) (Ev.c (fun h => ?_) (fun h => Ev.i (by rw [if_neg h])))
 rw [if_pos h]
 refine Ev.c (fun h => Ev.i (by rw [if_pos (by omega)])) (fun h => ?_)
 rw [if_neg (by omega)]
 have h : ∀ (d i : Nat), l.length - i = d → i ≤ l.length → Ev (fun k => examboardref43_checked.l0 k l (l.length : Int) (i : Int) id ts) (firstV id ts (l.drop i)) := by
  intro d
  induction d with
  | zero =>
   intro i hd hi
   rw [List.drop_eq_nil_of_le (by omega)]
   refine Ev.u ?_
   simp only [examboardref43_checked.l0]
   exact Ev.n (by omega) (Ev.now _)
  | succ d ih =>
   intro i hd hi
   have hlt : i < l.length := by omega
   rw [drop_rdL hlt]
   refine Ev.u ?_
   simp only [examboardref43_checked.l0, firstV]
   rw [wrap_nat (i := i) (by omega)]
   refine Ev.p (by omega) (Ev.p (by omega) (Ev.p (by omega) (Ev.bind (rcheck_ev id ts _ hn) (Ev.c (fun h => ?_) (fun h => Ev.i (by rw [if_neg h]))))))
   rw [if_pos h]; exact ih (i + 1) (by omega) (by omega)
 exact h _ 0 rfl (Nat.zero_le _)
theorem rneed_ev (g u id : Int) (ts : List S59) (l : List (List Int)) (hn : namesFit ts = true) (hs : Sm l) : Ev (fun k => examboardref43_Need.f k g u id ts l) (needV g u id ts l) := by
 unfold examboardref43_Need.f needV
 refine Ev.bind (rratings_ev g u id ts l hn hs) (Ev.c (fun h => ?_) (fun h => Ev.i (by rw [if_neg h])))
 rw [if_pos h]
 have h3 := (rgt h).2.2.1
 match l, h3 with
 | [], _ => exact Ev.p (by simp) (Ev.i (by show (wrap64 (2 - 0), (0 : Int)) = (2, 0); rw [wrap_in (by omega) (by omega)]; rfl))
 | [x], _ => exact Ev.p (by simp) (Ev.i (by show (wrap64 (2 - 1), (0 : Int)) = (1, 0); rw [wrap_in (by omega) (by omega)]; rfl))
 | [x, y], _ =>
  refine Ev.n (by simp) (Ev.p (by simp) (Ev.p (by simp) (Ev.bind (ragree_ev g u id ts x y hn) (Ev.p (by simp) ?_))))
  exact Ev.c (fun h => Ev.i (if_pos h).symm) (fun h => Ev.i (if_neg h).symm)
 | [x, y, z], _ => exact Ev.n (by simp) (Ev.p (by simp) (Ev.p (by simp) (Ev.bind (ragree_ev g u id ts x y hn) (Ev.n (by simp) (Ev.now _)))))
theorem rtotal_ev (id : Int) (ts : List S59) (ms : List Int) (hn : namesFit ts = true) : Ev (fun k => examboardref41_Total.f k id ts ms) (totalV id ts ms) := by
 unfold examboardref41_Total.f totalV
 refine Ev.bind (rcheck_ev id ts ms hn) (Ev.c (fun h0 => ?_) (fun h0 => Ev.i (by rw [if_neg h0])))
 rw [if_pos h0]
 obtain ⟨v0, hl, hf⟩ := ckt h0
 obtain ⟨h6, _, ht⟩ := vlt v0
 have hm := fmk hl hf ht
 have h : ∀ (d i : Nat) (s : Int), ms.length - i = d → i ≤ ms.length → 0 ≤ s ∧ s ≤ 100 * (i : Int) → Ev (fun k => examboardref41_Total.l0 k ms s (i : Int) id ts) (s + totalS (ms.drop i) (ts.drop i), 0) := by
  intro d
  induction d with
  | zero =>
   intro i s hd hi hs
   rw [List.drop_eq_nil_of_le (by omega), List.drop_eq_nil_of_le (by omega)]
   refine Ev.u ?_
   simp only [examboardref41_Total.l0]
   exact Ev.n (by omega) (Ev.i (by simp [totalS]))
  | succ d ih =>
   intro i s hd hi hs
   have hlt : i < ms.length := by omega
   have q := hm _ (rd_mem hlt)
   have q2 := ht _ (rdT_mem (l := ts) (i := i) (by omega))
   have q3 := mul_mark q.1 q.2 q2.2.1 q2.2.2
   rw [drop_rd hlt, drop_rdT (l := ts) (i := i) (by omega)]
   refine Ev.u ?_
   simp only [examboardref41_Total.l0, totalS]
   rw [wrap_nat (i := i) (by omega), wrap_in (n := rd ms (i : Int) * (rd_T59 ts (i : Int)).f2) (by omega) (by omega), wrap_in (by omega) (by omega)]
   refine Ev.p (by omega) (Ev.p (by omega) (Ev.p (by omega) ?_))
   have q4 := ih (i + 1) (s + rd ms (i : Int) * (rd_T59 ts (i : Int)).f2) (by omega) (by omega) (by omega)
   rwa [Int.add_assoc] at q4
 have h1 := h _ 0 0 rfl (Nat.zero_le _) (by omega)
 simpa using h1
theorem middle_ev (a b c : Int) : Ev (fun k => examboardref41_middle.f k a b c) (midV a b c) := by
 have hj : ∀ t : Bool, ((a ≤ b ∧ b ≤ c) ∨ (c ≤ b ∧ b ≤ a) ↔ t = true) → Ev (fun k => examboardref41_middle.j0 k a b c t) (midV a b c) := by
  intro t ht
  refine Ev.u ?_
  simp only [examboardref41_middle.j0]
  unfold midV
  refine Ev.c (fun h => Ev.i (by have := ht.2 h; omega)) (fun h => ?_)
  have h' : ¬ ((a ≤ b ∧ b ≤ c) ∨ (c ≤ b ∧ b ≤ a)) := fun q => h (ht.1 q)
  refine Ev.c (fun q => Ev.c (fun q => Ev.i (by omega)) (fun q => Ev.c (fun q => Ev.c (fun q => Ev.i (by omega)) (fun q => Ev.i (by omega))) (fun q => Ev.i (by omega)))) (fun q => Ev.c (fun q => Ev.c (fun q => Ev.i (by omega)) (fun q => Ev.i (by omega))) (fun q => Ev.i (by omega)))
 unfold examboardref41_middle.f
 refine Ev.c (fun q => Ev.c (fun q2 => hj _ ?_) (fun q2 => Ev.c (fun q3 => hj _ ?_) (fun q3 => hj _ ?_))) (fun q => Ev.c (fun q3 => hj _ ?_) (fun q3 => hj _ ?_))
 ·
  simp; omega
 ·
  rw [decide_eq_true_eq]; omega
 ·
  simp; omega
 ·
  rw [decide_eq_true_eq]; omega
 ·
  simp; omega
theorem rmedian_ev (id : Int) (ts : List S59) (x y z : List Int) (hn : namesFit ts = true) (h0 : firstV id ts [x, y, z] = 0) : Ev (fun k => examboardref41_Median.f k id ts x y z) (medS x y z, 0) := by
 obtain ⟨hx, hy, hz⟩ := first3 h0
 obtain ⟨v0, hlx, hfx⟩ := ckt hx
 obtain ⟨_, hly, _⟩ := ckt hy
 obtain ⟨_, hlz, _⟩ := ckt hz
 obtain ⟨h6, _, ht⟩ := vlt v0
 unfold examboardref41_Median.f
 refine Ev.bind (rcheck_ev id ts x hn) (Ev.p hx (Ev.bind (rcheck_ev id ts y hn) (Ev.u ?_)))
 simp only [examboardref41_Median.j0]
 refine Ev.p hy (Ev.bind (rcheck_ev id ts z hn) (Ev.u ?_))
 simp only [examboardref41_Median.j1]
 refine Ev.p hz ?_
 have h : ∀ (d i : Nat) (o : List Int), x.length - i = d → i ≤ x.length → o.length = i → Ev (fun k => examboardref41_Median.l0 k x y z o (i : Int)) (o ++ medS (x.drop i) (y.drop i) (z.drop i), 0) := by
  intro d
  induction d with
  | zero =>
   intro i o hd hi ho
   rw [show x.drop i = [] from List.drop_eq_nil_of_le (by omega)]
   refine Ev.u ?_
   simp only [examboardref41_Median.l0]
   exact Ev.n (by omega) (Ev.i (by simp [medS]))
  | succ d ih =>
   intro i o hd hi ho
   have hlt : i < x.length := by omega
   rw [drop_rd hlt, drop_rd (l := y) (i := i) (by omega), drop_rd (l := z) (i := i) (by omega)]
   refine Ev.u ?_
   simp only [examboardref41_Median.l0, medS]
   rw [wrap_nat (i := i) (by omega)]
   refine Ev.p (by omega) (Ev.p (by omega) (Ev.p (by omega) (Ev.p (by omega) (Ev.bind (middle_ev _ _ _) (Ev.p (by omega) ?_)))))
   have q := ih (i + 1) (o ++ [midV (rd x (i : Int)) (rd y (i : Int)) (rd z (i : Int))]) (by omega) (by omega) (by simp; omega)
   rwa [List.append_assoc, List.singleton_append] at q
 have h1 := h _ 0 [] rfl (Nat.zero_le _) rfl
 simpa using h1
theorem rfar_is (a b : Int) (h1 : 0 ≤ a ∧ a ≤ 600) (h2 : 0 ≤ b ∧ b ≤ 600) : examboardref43_apart.f a b = some (max (a - b) (b - a)) := by
 unfold examboardref43_apart.f
 by_cases h : a < b
 ·
  rw [if_pos h, wrap_in (by omega) (by omega), show max (a - b) (b - a) = b - a by omega]
 ·
  rw [if_neg h, wrap_in (by omega) (by omega), show max (a - b) (b - a) = a - b by omega]
theorem rscore_ev (g u id : Int) (ts : List S59) (l : List (List Int)) (hn : namesFit ts = true) (hs : Sm l) : Ev (fun k => examboardref43_Score.f k g u id ts l) (scoreV g u id ts l) := by
 unfold examboardref43_Score.f scoreV
 refine Ev.bind (rneed_ev g u id ts l hn hs) (Ev.c (fun h => ?_) (fun h => Ev.i (by rw [if_neg h])))
 rw [if_pos h]
 refine Ev.c (fun h2 => Ev.i (by rw [if_pos h2])) (fun h2 => ?_)
 rw [if_neg h2]
 have h0 : ratingsV g u id ts l = 0 := by
  by_cases q : ratingsV g u id ts l = 0
  ·
   exact q
  ·
   unfold needV at h; rw [if_neg q] at h; exact absurd h q
 obtain ⟨hr, hv, h3, hf⟩ := rgt h0
 match l, h3 with
 | [], _ => unfold needV at h2; rw [if_pos h0] at h2; exact absurd (show (2 : Int) > 0 by decide) h2
 | [x], _ => unfold needV at h2; rw [if_pos h0] at h2; exact absurd (show (1 : Int) > 0 by decide) h2
 | [x, y], _ =>
  have hx := fsm hf x (by simp)
  have hy := fsm hf y (by simp)
  have tx := tsh hx; have ty := tsh hy
  refine Ev.p (by simp) (Ev.bind (rtotal_ev id ts x hn) (Ev.p (by simp) (Ev.bind (rtotal_ev id ts y hn) ?_)))
  rw [total_is hx, total_is hy]
  refine Ev.u ?_
  simp only [examboardref43_Score.j0]
  exact Ev.p (by simp) (Ev.i (by rw [wrap_in (by omega) (by omega)]))
 | [x, y, z], _ =>
  have hx := fsm hf x (by simp)
  have hy := fsm hf y (by simp)
  have hz := fsm hf z (by simp)
  have tx := tsh hx; have ty := tsh hy; have tz := tsh hz
  refine Ev.p (by simp) (Ev.bind (rtotal_ev id ts x hn) (Ev.p (by simp) (Ev.bind (rtotal_ev id ts y hn) ?_)))
  rw [total_is hx, total_is hy]
  refine Ev.u ?_
  simp only [examboardref43_Score.j0]
  refine Ev.n (by simp) (Ev.p (by simp) (Ev.p (by simp) (Ev.bind (ragree_ev g u id ts x y hn) (Ev.c (fun h => Ev.i (by rw [if_pos h])) (fun h => Ev.p (by simp) ?_)))))
  rw [if_neg h]
  refine Ev.bind (rtotal_ev id ts z hn) ?_
  rw [total_is hz]
  refine Ev.u ?_
  simp only [examboardref43_Score.j1, beq_iff_eq]
  unfold thirdV
  refine Ev.c (fun h => Ev.i (by rw [if_pos h, wrap_in (by omega) (by omega)])) (fun h => ?_)
  rw [if_neg h]
  refine Ev.c (fun h => ?_) (fun h => ?_)
  ·
   rw [if_pos h]
   refine Ev.s (rfar_is _ _ ty tz) (Ev.s (rfar_is _ _ tx tz) ?_)
   exact Ev.c (fun h => Ev.i (by rw [if_pos h, wrap_in (by omega) (by omega)])) (fun h => Ev.i (by rw [if_neg h, wrap_in (by omega) (by omega)]))
  ·
   rw [if_neg h]
   have hm := med_check hx hy hz
   have tm := tsh hm
   refine Ev.p (by simp) (Ev.p (by simp) (Ev.p (by simp) (Ev.bind (rmedian_ev id ts x y z hn hf) ?_)))
   refine Ev.bind (rtotal_ev id ts (medS x y z) hn) ?_
   rw [total_is hm]
   exact Ev.i (by rw [wrap_in (by omega) (by omega)])
end Go.Proofs.Ytkajeeikpffioaa.Spec
