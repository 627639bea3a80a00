/- Plain words on rubrics, marks and rules: what the program's functions answer. -/
import Derived.Test.YtkajeeikpffioaaAllx3
import Derived.Test.YtkajeeikpffioaaAllx4
import Derived.Test.YtkajeeikpffioaaAllx4
import Derived.Test.YtkajeeikpffioaaAllx4
import Derived.Test.YtkajeeikpffioaaAllx7
import Derived.Test.YtkajeeikpffioaaAllx7
import Derived.Test.YtkajeeikpffioaaAllx5
import Derived.Test.YtkajeeikpffioaaAllx6
import Derived.Test.YtkajeeikpffioaaAllx8
set_option linter.unusedVariables false
namespace Go.Proofs.Ytkajeeikpffioaa.Spec
open Go.RowKit Go.Proofs.YtkajeeikpffioaaW.PrintWords Go.Proofs.YtkajeeikpffioaaW.PrintMore Go.Proofs.Ytkajeeikpffioaa.All
theorem wrap_in {n : Int} (h0 : -9223372036854775808 ≤ n) (h1 : n ≤ 9223372036854775807) : wrap64 n = n := by unfold wrap64; omega
theorem wrap_nat {i : Nat} (h : i < 9223372036854775807) : wrap64 ((i : Int) + 1) = ((i + 1 : Nat) : Int) := by rw [wrap_in (by omega) (by omega)]; omega
theorem rd_nat (l : List Int) (i : Nat) : rd l (i : Int) = l.getD i 0 := by simp [rd]
theorem drop_rd {l : List Int} {i : Nat} (h : i < l.length) : l.drop i = rd l (i : Int) :: l.drop (i + 1) := by
  rw [rd_nat, List.getD_eq_getElem?_getD, List.getElem?_eq_getElem h]; exact List.drop_eq_getElem_cons h
theorem drop_rdL {l : List (List Int)} {i : Nat} (h : i < l.length) : l.drop i = rd_L1 l (i : Int) :: l.drop (i + 1) := by
  rw [rd_L1, Int.toNat_natCast, List.getD_eq_getElem?_getD, List.getElem?_eq_getElem h]; exact List.drop_eq_getElem_cons h
theorem drop_rdT {l : List S59} {i : Nat} (h : i < l.length) : l.drop i = rd_T59 l (i : Int) :: l.drop (i + 1) := by
  rw [rd_T59, Int.toNat_natCast, List.getD_eq_getElem?_getD, List.getElem?_eq_getElem h]; exact List.drop_eq_getElem_cons h
theorem drop_rdR {l : List S31} {i : Nat} (h : i < l.length) : l.drop i = rd_T31 l (i : Int) :: l.drop (i + 1) := by
  rw [rd_T31, Int.toNat_natCast, List.getD_eq_getElem?_getD, List.getElem?_eq_getElem h]; exact List.drop_eq_getElem_cons h
theorem Ev.p {α : Type} {c : Prop} [Decidable c] {g f : Nat → Option α} {r : α} (h : c) (k : Ev g r) : Ev (fun n => if c then g n else f n) r := by
  simpa [h] using k
theorem Ev.n {α : Type} {c : Prop} [Decidable c] {g f : Nat → Option α} {r : α} (h : ¬ c) (k : Ev f r) : Ev (fun n => if c then g n else f n) r := by
  simpa [h] using k
theorem Ev.c {α : Type} {c : Prop} [Decidable c] {g f : Nat → Option α} {r : α} (k : c → Ev g r) (k' : ¬ c → Ev f r) : Ev (fun n => if c then g n else f n) r := by
  by_cases h : c
  · exact Ev.p h (k h)
  · exact Ev.n h (k' h)
theorem Ev.s {α β : Type} {o : Option α} {a : α} {f : Nat → α → Option β} {r : β} (h : o = some a) (k : Ev (fun n => f n a) r) : Ev (fun n => o.bind (f n)) r := by
  subst h; exact k
theorem Ev.u {α : Type} {g : Nat → Option α} {r : α} (h : Ev (fun k => g (k + 1)) r) : Ev g r := Ev.step (fun _ => rfl) h
theorem Ev.i {α : Type} {r r' : α} (h : r = r') : Ev (fun _ => some r) r' := h ▸ Ev.now r
abbrev Sm {α : Type} (l : List α) : Prop := l.length < 4611686018427387904
def traitOk (t : S59) : Prop := (1 ≤ t.f1 ∧ t.f1 ≤ 10) ∧ 1 ≤ t.f2 ∧ t.f2 ≤ 10
theorem traits_told : ∀ (seen ts : List S59), traitsV seen ts = 0 → ∀ t ∈ ts, traitOk t
  | seen, [], _, t, ht => by cases ht
  | seen, u :: ts, h, t, ht => by
    unfold traitsV at h
    by_cases h1 : nameV u.f0 = false
    · rw [if_pos h1] at h; exact absurd h (by decide)
    rw [if_neg h1] at h
    by_cases h2 : seen.any (isNamed u.f0) = true
    · rw [if_pos h2] at h; exact absurd h (by decide)
    rw [if_neg h2] at h
    by_cases h3 : u.f1 < 1 ∨ u.f1 > 10 ∨ u.f2 < 1 ∨ u.f2 > 10
    · rw [if_pos h3] at h; exact absurd h (by decide)
    rw [if_neg h3] at h
    rcases List.mem_cons.1 ht with rfl | ht
    · unfold traitOk; omega
    · exact traits_told _ ts h t ht
theorem vlt {id : Int} {ts : List S59} (h : validV id ts = 0) : ts.length ≤ 6 ∧ ts ≠ [] ∧ ∀ t ∈ ts, traitOk t := by
  unfold validV at h
  by_cases h1 : id < 1 ∨ id > 9999999
  · rw [if_pos h1] at h; exact absurd h (by decide)
  rw [if_neg h1] at h
  by_cases h2 : ts.length > 6
  · rw [if_pos h2] at h; exact absurd h (by decide)
  rw [if_neg h2] at h
  by_cases h3 : ts.length = 0
  · rw [if_pos h3] at h; exact absurd h (by decide)
  rw [if_neg h3] at h
  exact ⟨by omega, fun e => h3 (by rw [e]; rfl), traits_told _ _ h⟩
def fitsV : List Int → List S59 → Bool
  | m :: ms, t :: ts => (decide (0 ≤ m) && decide (m ≤ t.f1)) && fitsV ms ts
  | _, _ => true
def checkV (id : Int) (ts : List S59) (ms : List Int) : Int := if validV id ts = 0 then (if ms.length = ts.length then (if fitsV ms ts = true then 0 else 3) else 1) else validV id ts
theorem valid_is {id : Int} {ts : List S59} (hn : namesFit ts = true) : rubric_Valid.f id ts = some (validV id ts) := by rw [rubric_Valid.f, if_pos hn]
theorem check_ev (id : Int) (ts : List S59) (ms : List Int) (hn : namesFit ts = true) : Ev (fun k => rubric_Check.f k id ts ms) (checkV id ts ms) := by
  unfold rubric_Check.f checkV
  refine Ev.s (valid_is hn) (Ev.c (fun h0 => ?_) (fun h0 => Ev.i (by rw [if_neg h0])))
  rw [if_pos h0]
  refine Ev.c (fun h1 => ?_) (fun h1 => Ev.i (by rw [if_neg (by omega)]))
  rw [if_pos (by omega)]
  have hl : ms.length = ts.length := by omega
  have h6 := (vlt h0).1
  have h : ∀ (d i : Nat), ms.length - i = d → i ≤ ms.length → Ev (fun k => rubric_Check.l0 k ms (ms.length : Int) (i : Int) id ts) (if fitsV (ms.drop i) (ts.drop i) = true then 0 else 3) := by
    intro d
    induction d with
    | zero =>
      intro i hd hi
      rw [List.drop_eq_nil_of_le (by omega)]
      refine Ev.u ?_
      simp only [rubric_Check.l0]
      exact Ev.n (by omega) (Ev.i (by simp [fitsV]))
    | succ d ih =>
      intro i hd hi
      have hlt : i < ms.length := by omega
      rw [drop_rd hlt, drop_rdT (l := ts) (i := i) (by omega)]
      refine Ev.u ?_
      simp only [rubric_Check.l0]
      rw [wrap_nat (i := i) (by omega)]
      refine Ev.p (by omega) (Ev.p (by omega) (Ev.p (by omega) (Ev.c (fun h => Ev.i ?_) (fun h => Ev.p (by omega) (Ev.c (fun h' => Ev.i ?_) (fun h' => ?_))))))
      · rw [if_neg (by intro q; simp only [fitsV, Bool.and_eq_true, decide_eq_true_eq] at q; omega)]
      · rw [if_neg (by intro q; simp only [fitsV, Bool.and_eq_true, decide_eq_true_eq] at q; omega)]
      · have q := ih (i + 1) (by omega) (by omega)
        have e : fitsV (rd ms (i : Int) :: ms.drop (i + 1)) (rd_T59 ts (i : Int) :: ts.drop (i + 1)) = fitsV (ms.drop (i + 1)) (ts.drop (i + 1)) := by
          simp only [fitsV]
          rw [show decide (0 ≤ rd ms (i : Int)) = true from decide_eq_true (by omega), show decide (rd ms (i : Int) ≤ (rd_T59 ts (i : Int)).f1) = true from decide_eq_true (by omega)]; simp
        rw [e]; exact q
  exact h _ 0 rfl (Nat.zero_le _)
def firstV (id : Int) (ts : List S59) : List (List Int) → Int
  | [] => 0
  | m :: l => if checkV id ts m = 0 then firstV id ts l else checkV id ts m
theorem checkAll_ev (id : Int) (ts : List S59) (l : List (List Int)) (hn : namesFit ts = true) (hl : Sm l) : Ev (fun k => rubric_checkAll.f k id ts l) (firstV id ts l) := by
  have h : ∀ (d i : Nat), l.length - i = d → i ≤ l.length → Ev (fun k => rubric_checkAll.l0 k l (l.length : Int) (i : Int) id ts) (firstV id ts (l.drop i)) := by
    intro d
    induction d with
    | zero =>
      intro i hd hi
      rw [List.drop_eq_nil_of_le (by omega)]
      refine Ev.u ?_
      simp only [rubric_checkAll.l0]
      exact Ev.n (by omega) (Ev.now _)
    | succ d ih =>
      intro i hd hi
      have hlt : i < l.length := by omega
      rw [drop_rdL hlt]
      refine Ev.u ?_
      simp only [rubric_checkAll.l0, firstV]
      rw [wrap_nat (i := i) (by omega)]
      refine Ev.p (by omega) (Ev.p (by omega) (Ev.p (by omega) (Ev.bind (check_ev id ts _ hn) (Ev.c (fun h => ?_) (fun h => Ev.i (by rw [if_neg h]))))))
      rw [if_pos h]; exact ih (i + 1) (by omega) (by omega)
  exact h _ 0 rfl (Nat.zero_le _)
theorem ckt {id : Int} {ts : List S59} {ms : List Int} (h : checkV id ts ms = 0) : validV id ts = 0 ∧ ms.length = ts.length ∧ fitsV ms ts = true := by
  unfold checkV at h
  by_cases h0 : validV id ts = 0
  · rw [if_pos h0] at h
    by_cases h1 : ms.length = ts.length
    · rw [if_pos h1] at h
      by_cases h2 : fitsV ms ts = true
      · exact ⟨h0, h1, h2⟩
      · rw [if_neg h2] at h; exact absurd h (by decide)
    · rw [if_neg h1] at h; exact absurd h (by decide)
  · rw [if_neg h0] at h; exact absurd h h0
theorem fmk : ∀ {ms : List Int} {ts : List S59}, ms.length = ts.length → fitsV ms ts = true → (∀ t ∈ ts, traitOk t) → ∀ m ∈ ms, 0 ≤ m ∧ m ≤ 10
  | [], _, _, _, _, m, hm => by cases hm
  | a :: ms, [], hl, _, _, m, hm => by simp at hl
  | a :: ms, t :: ts, hl, hf, ht, m, hm => by
    simp only [fitsV, Bool.and_eq_true, decide_eq_true_eq] at hf
    have h0 := ht t (List.mem_cons_self ..)
    rcases List.mem_cons.1 hm with rfl | hm
    · unfold traitOk at h0; omega
    · exact fmk (by simpa using hl) hf.2 (fun u hu => ht u (List.mem_cons_of_mem _ hu)) m hm
theorem rd_mem {l : List Int} {i : Nat} (h : i < l.length) : rd l (i : Int) ∈ l := by
  rw [rd_nat, List.getD_eq_getElem?_getD, List.getElem?_eq_getElem h]; exact List.getElem_mem h
theorem rdT_mem {l : List S59} {i : Nat} (h : i < l.length) : rd_T59 l (i : Int) ∈ l := by
  rw [rd_T59, Int.toNat_natCast, List.getD_eq_getElem?_getD, List.getElem?_eq_getElem h]; exact List.getElem_mem h
def totalS : List Int → List S59 → Int
  | m :: ms, t :: ts => m * t.f2 + totalS ms ts
  | _, _ => 0
def totalV (id : Int) (ts : List S59) (ms : List Int) : Int × Int := if checkV id ts ms = 0 then (totalS ms ts, 0) else (0, checkV id ts ms)
theorem mul_mark {m c : Int} (h0 : 0 ≤ m) (h1 : m ≤ 10) (h2 : 1 ≤ c) (h3 : c ≤ 10) : 0 ≤ m * c ∧ m * c ≤ 100 := by
  constructor
  · exact Int.mul_nonneg h0 (by omega)
  · calc m * c ≤ 10 * c := Int.mul_le_mul_of_nonneg_right h1 (by omega)
      _ ≤ 100 := by omega
theorem total_ev (id : Int) (ts : List S59) (ms : List Int) (hn : namesFit ts = true) : Ev (fun k => rubric_Total.f k id ts ms) (totalV id ts ms) := by
  unfold rubric_Total.f totalV
  refine Ev.bind (check_ev id ts ms hn) (Ev.c (fun h0 => ?_) (fun h0 => Ev.i (by rw [if_neg h0])))
  rw [if_pos h0]
  obtain ⟨v0, hl, hf⟩ := ckt h0
  obtain ⟨h6, _, ht⟩ := vlt v0
  have hm := fmk hl hf ht
  have h : ∀ (d i : Nat) (s : Int), ts.length - i = d → i ≤ ts.length → 0 ≤ s ∧ s ≤ 100 * (i : Int) → Ev (fun k => rubric_Total.l0 k ms s ts (ts.length : Int) (i : Int)) (s + totalS (ms.drop i) (ts.drop i), 0) := by
    intro d
    induction d with
    | zero =>
      intro i s hd hi hs
      rw [List.drop_eq_nil_of_le (by omega), List.drop_eq_nil_of_le (by omega)]
      refine Ev.u ?_
      simp only [rubric_Total.l0]
      exact Ev.n (by omega) (Ev.i (by simp [totalS]))
    | succ d ih =>
      intro i s hd hi hs
      have hlt : i < ts.length := by omega
      have q := hm _ (rd_mem (l := ms) (i := i) (by omega))
      have q2 := ht _ (rdT_mem hlt)
      have q3 := mul_mark q.1 q.2 q2.2.1 q2.2.2
      rw [drop_rd (l := ms) (i := i) (by omega), drop_rdT hlt]
      refine Ev.u ?_
      simp only [rubric_Total.l0, totalS]
      rw [wrap_nat (i := i) (by omega), wrap_in (n := rd ms (i : Int) * (rd_T59 ts (i : Int)).f2) (by omega) (by omega), wrap_in (by omega) (by omega)]
      refine Ev.p (by omega) (Ev.p (by omega) (Ev.p (by omega) (Ev.p (by omega) ?_)))
      have q4 := ih (i + 1) (s + rd ms (i : Int) * (rd_T59 ts (i : Int)).f2) (by omega) (by omega) (by omega)
      rwa [Int.add_assoc] at q4
  have h1 := h _ 0 0 rfl (Nat.zero_le _) (by omega)
  simpa using h1
def apartS : List Int → List Int → Int → Int
  | x :: xs, y :: ys, s => apartS xs ys (max (max s (x - y)) (y - x))
  | _, _, s => s
theorem mx_is (a b : Int) : mx a b = max a b := by unfold mx; split <;> omega
theorem mn_is (a b : Int) : mn a b = min a b := by unfold mn; split <;> omega
def apartV (id : Int) (ts : List S59) (x y : List Int) : Int × Int := if firstV id ts [x, y] = 0 then (apartS x y 0, 0) else (0, firstV id ts [x, y])
theorem first2 {id : Int} {ts : List S59} {x y : List Int} (h : firstV id ts [x, y] = 0) : checkV id ts x = 0 ∧ checkV id ts y = 0 := by
  simp only [firstV] at h
  by_cases h1 : checkV id ts x = 0
  · rw [if_pos h1] at h
    by_cases h2 : checkV id ts y = 0
    · exact ⟨h1, h2⟩
    · rw [if_neg h2] at h; exact absurd h h2
  · rw [if_neg h1] at h; exact absurd h h1
theorem apart_ev (id : Int) (ts : List S59) (x y : List Int) (hn : namesFit ts = true) : Ev (fun k => rubric_Apart.f k id ts x y) (apartV id ts x y) := by
  unfold rubric_Apart.f apartV
  refine Ev.bind (checkAll_ev id ts [x, y] hn (by simp)) (Ev.c (fun h0 => ?_) (fun h0 => Ev.i (by rw [if_neg h0])))
  rw [if_pos h0]
  obtain ⟨hx, hy⟩ := first2 h0
  obtain ⟨v0, hlx, hfx⟩ := ckt hx
  obtain ⟨_, hly, hfy⟩ := ckt hy
  obtain ⟨h6, _, ht⟩ := vlt v0
  have hmx := fmk hlx hfx ht
  have hmy := fmk hly hfy ht
  have h : ∀ (d i : Nat) (s : Int), x.length - i = d → i ≤ x.length → Ev (fun k => rubric_Apart.l0 k x y s (x.length : Int) (i : Int)) (apartS (x.drop i) (y.drop i) s, 0) := by
    intro d
    induction d with
    | zero =>
      intro i s hd hi
      rw [List.drop_eq_nil_of_le (by omega)]
      refine Ev.u ?_
      simp only [rubric_Apart.l0]
      exact Ev.n (by omega) (Ev.i (by simp [apartS]))
    | succ d ih =>
      intro i s hd hi
      have hlt : i < x.length := by omega
      have q := hmx _ (rd_mem hlt)
      have q2 := hmy _ (rd_mem (l := y) (i := i) (by omega))
      rw [drop_rd hlt, drop_rd (l := y) (i := i) (by omega)]
      refine Ev.u ?_
      simp only [rubric_Apart.l0, apartS]
      rw [wrap_nat (i := i) (by omega), wrap_in (n := rd x (i : Int) - rd y (i : Int)) (by omega) (by omega), wrap_in (n := rd y (i : Int) - rd x (i : Int)) (by omega) (by omega), mx_is, mx_is]
      exact Ev.p (by omega) (Ev.p (by omega) (Ev.p (by omega) (Ev.p (by omega) (ih (i + 1) _ (by omega) (by omega)))))
  exact h _ 0 0 rfl (Nat.zero_le _)
end Go.Proofs.Ytkajeeikpffioaa.Spec
