/- What the search keeps, and what it comes to: the best of all feasible assignments. -/
import Derived.Test.YthicnegcpafkkaaSpec
import Derived.Test.YthicnegcpafkkaaSets
import Derived.Test.YthicnegcpafkkaaValues
set_option linter.unusedVariables false
namespace Go.Proofs.Ythicnegcpafkkaa.Spec

abbrev Best := Option (List Int × Int)
def better (b : Best) (v : Int) : Bool := match b with
  | none => true
  | some p => decide (p.2 < v)
/-- y is x and n more bits. -/
def Ext (n : Nat) (x y : List Int) : Prop := ∃ z : List Int, z.length = n ∧ (∀ c ∈ z, c = 0 ∨ c = 1) ∧ y = x ++ z
theorem Ext.cons {n : Nat} {x y : List Int} {c : Int} (hc : c = 0 ∨ c = 1) (h : Ext n (x ++ [c]) y) : Ext (n + 1) x y := by
  obtain ⟨z, h1, h2, rfl⟩ := h
  refine ⟨c :: z, by simp [h1], fun d hd => ?_, by simp⟩
  rcases List.mem_cons.1 hd with rfl | hd
  · exact hc
  · exact h2 d hd
theorem Ext.cases {n : Nat} {x y : List Int} (h : Ext (n + 1) x y) : Ext n (x ++ [0]) y ∨ Ext n (x ++ [1]) y := by
  obtain ⟨z, h1, h2, rfl⟩ := h
  match z, h1 with
  | c :: z, h1 =>
    have h3 : Ext n (x ++ [c]) (x ++ c :: z) := ⟨z, by simpa using h1, fun d hd => h2 d (List.mem_cons_of_mem _ hd), by simp⟩
    rcases h2 c (List.mem_cons_self ..) with rfl | rfl
    · exact .inl h3
    · exact .inr h3
theorem Ext.zero {x : List Int} : Ext 0 x x := ⟨[], rfl, fun _ h => (by cases h), by simp⟩
theorem Ext.eq {x y : List Int} (h : Ext 0 x y) : y = x := by
  obtain ⟨z, h1, _, rfl⟩ := h
  rw [List.eq_nil_of_length_eq_zero h1, List.append_nil]
/-- The best among the completions of x by n bits, behind what is best already. -/
def dfs (F : List Int → Bool) (val : List Int → Int) : Nat → List Int → Best → Best
  | 0, x, b => if (F x && better b (val x)) = true then some (x, val x) else b
  | n + 1, x, b => dfs F val n (x ++ [0]) (dfs F val n (x ++ [1]) b)
theorem dfs_none {F : List Int → Bool} {val : List Int → Int} : ∀ (n : Nat) (x : List Int) (b : Best), (∀ y, Ext n x y → F y = false ∨ better b (val y) = false) → dfs F val n x b = b
  | 0, x, b, h => by
    simp only [dfs]
    rcases h x Ext.zero with q | q
    · rw [q]; simp
    · rw [q]; simp
  | n + 1, x, b, h => by
    simp only [dfs]
    rw [dfs_none n (x ++ [1]) b (fun y hy => h y (hy.cons (.inr rfl))), dfs_none n (x ++ [0]) b (fun y hy => h y (hy.cons (.inl rfl)))]
theorem dfs_congr {F F' : List Int → Bool} {val : List Int → Int} : ∀ (n : Nat) (x : List Int) (b : Best), (∀ y, Ext n x y → F y = F' y) → dfs F val n x b = dfs F' val n x b
  | 0, x, b, h => by simp only [dfs]; rw [h x Ext.zero]
  | n + 1, x, b, h => by
    simp only [dfs]
    rw [dfs_congr n (x ++ [1]) b (fun y hy => h y (hy.cons (.inr rfl))), dfs_congr n (x ++ [0]) _ (fun y hy => h y (hy.cons (.inl rfl)))]
/-- The search that leaves out what H calls hopeless, and what the fixed variables do not allow. -/
def goS (H : List Int → Best → Bool) (val : List Int → Int) (fx : List Int) : Nat → List Int → Best → Best
  | 0, x, b => if H x b = true then b else some (x, val x)
  | n + 1, x, b => if H x b = true then b else
      let b1 := if fx.getD x.length 0 ≠ 0 then goS H val fx n (x ++ [1]) b else b
      if fx.getD x.length 0 ≠ 1 then goS H val fx n (x ++ [0]) b1 else b1
theorem goS_dfs {H : List Int → Best → Bool} {F : List Int → Bool} {val : List Int → Int} {fx : List Int} (P : List Int → Prop) (N : Nat)
    (hP : ∀ x c, P x → (c = 0 ∨ c = 1) → x.length < N → (c = 1 → fx.getD x.length 0 ≠ 0) → (c = 0 → fx.getD x.length 0 ≠ 1) → P (x ++ [c]))
    (hH : ∀ n x b, P x → x.length + n = N → H x b = true → ∀ y, Ext n x y → F y = false ∨ better b (val y) = false)
    (h0 : ∀ x b, P x → x.length = N → H x b = false → F x = true ∧ better b (val x) = true)
    (hf : ∀ n x c, P x → x.length + (n + 1) = N → (c = 1 ∧ fx.getD x.length 0 = 0) ∨ (c = 0 ∧ fx.getD x.length 0 = 1) → ∀ y, Ext n (x ++ [c]) y → F y = false) :
    ∀ (n : Nat) (x : List Int) (b : Best), P x → x.length + n = N → goS H val fx n x b = dfs F val n x b
  | 0, x, b, hx, hn => by
    simp only [goS]
    by_cases h : H x b = true
    · rw [if_pos h, dfs_none 0 x b (hH 0 x b hx hn h)]
    · rw [if_neg h]
      obtain ⟨q1, q2⟩ := h0 x b hx (by omega) (by simpa using h)
      simp only [dfs]; rw [q1, q2]; simp
  | n + 1, x, b, hx, hn => by
    simp only [goS]
    by_cases h : H x b = true
    · rw [if_pos h, dfs_none (n + 1) x b (hH (n + 1) x b hx hn h)]
    · rw [if_neg h]
      have e1 : (if fx.getD x.length 0 ≠ 0 then goS H val fx n (x ++ [1]) b else b) = dfs F val n (x ++ [1]) b := by
        by_cases q : fx.getD x.length 0 ≠ 0
        · rw [if_pos q]
          exact goS_dfs P N hP hH h0 hf n (x ++ [1]) b (hP x 1 hx (.inr rfl) (by omega) (fun _ => q) (fun e => by omega)) (by simp; omega)
        · rw [if_neg q, dfs_none n (x ++ [1]) b (fun y hy => .inl (hf n x 1 hx hn (.inl ⟨rfl, by omega⟩) y hy))]
      rw [e1]
      simp only [dfs]
      by_cases q : fx.getD x.length 0 ≠ 1
      · rw [if_pos q]
        exact goS_dfs P N hP hH h0 hf n (x ++ [0]) _ (hP x 0 hx (.inl rfl) (by omega) (fun e => by omega) (fun _ => q)) (by simp; omega)
      · rw [if_neg q, dfs_none n (x ++ [0]) _ (fun y hy => .inl (hf n x 0 hx hn (.inr ⟨rfl, by omega⟩) y hy))]
end Go.Proofs.Ythicnegcpafkkaa.Spec
set_option linter.unusedVariables false
namespace Go.Proofs.Ythicnegcpafkkaa.Spec
open Go.RowKit Go.Proofs.YthicnegcpafkkaaW.PrintWords Go.Proofs.Ythicnegcpafkkaa.All Go.Proofs.Ythicnegcpafkkaa.Search
theorem dot_snoc : ∀ (a x : List Int) (c : Int), x.length < a.length → dotS a (x ++ [c]) = dotS a x + rd a (x.length : Int) * c
  | [], x, c, h => absurd h (by simp)
  | a :: al, [], c, h => by simp [dotS, rd]
  | a :: al, b :: bl, c, h => by
    simp only [List.cons_append, dotS]
    rw [dot_snoc al bl c (by simpa using h), rd_nat, rd_nat]
    simp [Int.add_assoc]
theorem dot_zero (a x : List Int) (h : x.length < a.length) : dotS a (x ++ [0]) = dotS a x := by rw [dot_snoc a x 0 h]; simp
theorem dot_bound : ∀ (a x : List Int), a.all okCoef = true → x.all isBit = true → -1000000 * (x.length : Int) ≤ dotS a x ∧ dotS a x ≤ 1000000 * (x.length : Int)
  | [], x, _, _ => by simp [dotS]; omega
  | a :: al, [], _, _ => by simp [dotS]
  | a :: al, b :: bl, h1, h2 => by
    rw [List.all_cons, Bool.and_eq_true] at h1 h2
    have h3 := mul_bit h1.1 h2.1
    have h4 := dot_bound al bl h1.2 h2.2
    simp only [dotS, List.length_cons]
    omega
def sumsOf (rs : List S45) (x : List Int) : List Int := rs.map fun r => dotS r.f0 x
theorem sumsOf_length (rs : List S45) (x : List Int) : (sumsOf rs x).length = rs.length := by simp [sumsOf]
theorem addS_map (sg pos : Int) (f : S45 → Int) : ∀ rs : List S45, addS sg pos rs (rs.map f) = rs.map fun r => wrap64 (f r + wrap64 (sg * rd r.f0 pos))
  | [] => rfl
  | r :: rs => by simp only [List.map_cons, addS]; rw [addS_map sg pos f rs]
section
variable {v : List Int} {rs : List S45} {fx : List Int}
theorem val_up (h : ValidP v rs fx) {x : List Int} (hx : x.all isBit = true) (hl : x.length < v.length) : wrap64 (dotS v x + wrap64 (1 * rd v (x.length : Int))) = dotS v (x ++ [1]) := by
  have h1 := dot_bound v x h.okV hx
  have h2 := okCoef_le (all_rd h.okV hl)
  have h3 := h.vars
  rw [dot_snoc v x 1 hl, wrap_in (n := 1 * rd v (x.length : Int)) (by omega) (by omega), wrap_in (by omega) (by omega)]
  omega
theorem val_down (h : ValidP v rs fx) {x : List Int} (hx : x.all isBit = true) (hl : x.length < v.length) : wrap64 (dotS v (x ++ [1]) + wrap64 (-1 * rd v (x.length : Int))) = dotS v x := by
  have h1 := dot_bound v x h.okV hx
  have h2 := okCoef_le (all_rd h.okV hl)
  have h3 := h.vars
  rw [dot_snoc v x 1 hl, wrap_in (n := -1 * rd v (x.length : Int)) (by omega) (by omega), wrap_in (by omega) (by omega)]
  omega
theorem sums_up (h : ValidP v rs fx) {x : List Int} (hx : x.all isBit = true) (hl : x.length < v.length) : addS 1 (x.length : Int) rs (sumsOf rs x) = sumsOf rs (x ++ [1]) := by
  rw [sumsOf, addS_map, sumsOf]
  refine List.map_congr_left fun r hr => ?_
  obtain ⟨q1, q2, q3, q4⟩ := h.row hr
  have hl' : x.length < r.f0.length := by omega
  have h1 := dot_bound r.f0 x q4 hx
  have h2 := okCoef_le (all_rd q4 hl')
  have h3 := h.vars
  rw [dot_snoc r.f0 x 1 hl', wrap_in (n := 1 * rd r.f0 (x.length : Int)) (by omega) (by omega), wrap_in (by omega) (by omega)]
  omega
theorem sums_down (h : ValidP v rs fx) {x : List Int} (hx : x.all isBit = true) (hl : x.length < v.length) : addS (-1) (x.length : Int) rs (sumsOf rs (x ++ [1])) = sumsOf rs x := by
  rw [sumsOf, addS_map, sumsOf]
  refine List.map_congr_left fun r hr => ?_
  obtain ⟨q1, q2, q3, q4⟩ := h.row hr
  have hl' : x.length < r.f0.length := by omega
  have h1 := dot_bound r.f0 x q4 hx
  have h2 := okCoef_le (all_rd q4 hl')
  have h3 := h.vars
  rw [dot_snoc r.f0 x 1 hl', wrap_in (n := -1 * rd r.f0 (x.length : Int)) (by omega) (by omega), wrap_in (by omega) (by omega)]
  omega
theorem sums_zero (h : ValidP v rs fx) {x : List Int} (hl : x.length < v.length) : sumsOf rs (x ++ [0]) = sumsOf rs x := by
  rw [sumsOf, sumsOf]
  refine List.map_congr_left fun r hr => dot_zero r.f0 x (by have := (h.row hr).1; omega)
end
/-- From each variable on: the least and the greatest sums. -/
def tabLo (c fx : List Int) : List Int := (List.range (c.length + 1)).map fun i => loS (c.drop i) (fx.drop i)
def tabHi (c fx : List Int) : List Int := (List.range (c.length + 1)).map fun i => hiS (c.drop i) (fx.drop i)
theorem tabLo_length (c fx : List Int) : (tabLo c fx).length = c.length + 1 := by simp [tabLo]
theorem tabHi_length (c fx : List Int) : (tabHi c fx).length = c.length + 1 := by simp [tabHi]
theorem tabLo_rd (c fx : List Int) {i : Nat} (h : i ≤ c.length) : rd (tabLo c fx) (i : Int) = loS (c.drop i) (fx.drop i) := by
  rw [rd_nat, tabLo, List.getD_eq_getElem?_getD, List.getElem?_map, List.getElem?_range (by omega)]; rfl
theorem tabHi_rd (c fx : List Int) {i : Nat} (h : i ≤ c.length) : rd (tabHi c fx) (i : Int) = hiS (c.drop i) (fx.drop i) := by
  rw [rd_nat, tabHi, List.getD_eq_getElem?_getD, List.getElem?_map, List.getElem?_range (by omega)]; rfl
theorem lo_bound : ∀ (c fx : List Int), c.all okCoef = true → (-1000000 * (c.length : Int) ≤ loS c fx ∧ loS c fx ≤ 1000000 * (c.length : Int)) ∧ (-1000000 * (c.length : Int) ≤ hiS c fx ∧ hiS c fx ≤ 1000000 * (c.length : Int))
  | [], fx, _ => by simp [loS, hiS]
  | a :: al, [], _ => by simp [loS, hiS]; omega
  | a :: al, f :: fs, h => by
    rw [List.all_cons, Bool.and_eq_true] at h
    have h1 := okCoef_le h.1
    have h2 := lo_bound al fs h.2
    have b1 : -1000000 ≤ tlo a f ∧ tlo a f ≤ 1000000 := by unfold tlo; split <;> (try split) <;> (try split) <;> omega
    have b2 : -1000000 ≤ thi a f ∧ thi a f ≤ 1000000 := by unfold thi; split <;> (try split) <;> (try split) <;> omega
    simp only [loS, hiS, List.length_cons]
    omega
theorem lo_drop (c fx : List Int) (h : c.all okCoef = true) (i : Nat) (hi : i ≤ c.length) (hn : c.length ≤ 24) : (-24000000 ≤ loS (c.drop i) (fx.drop i) ∧ loS (c.drop i) (fx.drop i) ≤ 24000000) ∧ (-24000000 ≤ hiS (c.drop i) (fx.drop i) ∧ hiS (c.drop i) (fx.drop i) ≤ 24000000) := by
  have h1 : (c.drop i).all okCoef = true := by
    rw [List.all_eq_true] at h ⊢
    exact fun y hy => h y (List.drop_subset i c hy)
  have h2 := lo_bound (c.drop i) (fx.drop i) h1
  rw [List.length_drop] at h2
  omega
/-- A row that no completion meets. -/
def deadRow (fx x : List Int) (r : S45) : Bool := decide (dotS r.f0 x + loS (r.f0.drop x.length) (fx.drop x.length) > r.f2) || decide (dotS r.f0 x + hiS (r.f0.drop x.length) (fx.drop x.length) < r.f1)
def noBetter (v fx x : List Int) : Best → Bool
  | none => false
  | some p => decide (dotS v x + hiS (v.drop x.length) (fx.drop x.length) ≤ p.2)
def hopP (v : List Int) (rs : List S45) (fx : List Int) (x : List Int) (b : Best) : Bool := noBetter v fx x b || rs.any (deadRow fx x)
end Go.Proofs.Ythicnegcpafkkaa.Spec
set_option linter.unusedVariables false
namespace Go.Proofs.Ythicnegcpafkkaa.Spec
open Go.RowKit Go.Proofs.YthicnegcpafkkaaW.PrintWords Go.Proofs.Ythicnegcpafkkaa.All Go.Proofs.Ythicnegcpafkkaa.Search
theorem rdT_map {rs : List S45} {i : Nat} (h : i < rs.length) : rd_T45 rs (i : Int) = rs[i] := by
  rw [rd_T45, Int.toNat_natCast, List.getD_eq_getElem?_getD, List.getElem?_eq_getElem h]; rfl
theorem rd_sums {rs : List S45} {x : List Int} {i : Nat} (h : i < rs.length) : rd (sumsOf rs x) (i : Int) = dotS rs[i].f0 x := by
  rw [rd_nat, sumsOf, List.getD_eq_getElem?_getD, List.getElem?_map, List.getElem?_eq_getElem h]; rfl
theorem rd_map1 {rs : List S45} {f : S45 → List Int} {i : Nat} (h : i < rs.length) : rd_L1 (rs.map f) (i : Int) = f rs[i] := by
  rw [rd_L1, Int.toNat_natCast, List.getD_eq_getElem?_getD, List.getElem?_map, List.getElem?_eq_getElem h]; rfl
theorem any_range {rs : List S45} {p : S45 → Bool} {q : Nat → Bool} (h : ∀ i (hi : i < rs.length), q i = p rs[i]) : (List.range rs.length).any q = rs.any p := by
  rw [Bool.eq_iff_iff, List.any_eq_true, List.any_eq_true]
  constructor
  · rintro ⟨i, hi, hq⟩
    have hi' := List.mem_range.1 hi
    exact ⟨rs[i], List.getElem_mem hi', by rw [← h i hi']; exact hq⟩
  · rintro ⟨r, hr, hp⟩
    obtain ⟨i, hi, rfl⟩ := List.getElem_of_mem hr
    exact ⟨i, List.mem_range.2 hi, by rw [h i hi]; exact hp⟩
def BestIs (Ab : Option Addr) (most : Int) (b : Best) : Prop := match b with
  | none => Ab = none
  | some p => Ab.isNone = false ∧ most = p.2
theorem hop_eq {v : List Int} {rs : List S45} {fx : List Int} (h : ValidP v rs fx) {x : List Int} (hx : x.all isBit = true) (hl : x.length ≤ v.length) {Ab : Option Addr} {most : Int} {b : Best} (hb : BestIs Ab most b) :
    hopS Ab (dotS v x) most (tabHi v fx) (sumsOf rs x) (rs.map fun r => tabLo r.f0 fx) (rs.map fun r => tabHi r.f0 fx) rs (x.length : Int) = hopP v rs fx x b := by
  have hn := h.vars
  unfold hopS hopP
  have e1 : hopBest Ab (dotS v x) most (tabHi v fx) (x.length : Int) = noBetter v fx x b := by
    have h1 := dot_bound v x h.okV hx
    have h2 := lo_drop v fx h.okV x.length hl hn
    unfold hopBest
    rw [tabHi_rd v fx hl, wrap_in (by omega) (by omega)]
    cases b with
    | none => rw [show Ab = none from hb]; rfl
    | some p => rw [show Ab.isNone = false from hb.1, show most = p.2 from hb.2]; rfl
  rw [e1]
  congr 1
  refine any_range fun i hi => ?_
  obtain ⟨q1, q2, q3, q4⟩ := h.row (List.getElem_mem hi)
  have h1 := dot_bound rs[i].f0 x q4 hx
  have h2 := lo_drop rs[i].f0 fx q4 x.length (by omega) (by omega)
  unfold hopRow deadRow
  rw [rd_sums hi, rd_map1 hi, rd_map1 hi, rdT_map hi, tabLo_rd _ _ (by omega), tabHi_rd _ _ (by omega), wrap_in (by omega) (by omega), wrap_in (by omega) (by omega)]
end Go.Proofs.Ythicnegcpafkkaa.Spec
set_option linter.unusedVariables false
namespace Go.Proofs.Ythicnegcpafkkaa.Spec
open Go.RowKit Go.Proofs.YthicnegcpafkkaaW.PrintWords Go.Proofs.Ythicnegcpafkkaa.All
theorem dot_append : ∀ (a x z : List Int), dotS a (x ++ z) = dotS a x + dotS (a.drop x.length) z
  | a, [], z => by cases a <;> simp [dotS]
  | [], b :: bl, z => by simp [dotS]
  | a :: al, b :: bl, z => by
    simp only [List.cons_append, dotS, List.length_cons, List.drop_succ_cons]
    rw [dot_append al bl z, Int.add_assoc]
theorem fix_append : ∀ (f x z : List Int), fixS f (x ++ z) = (fixS f x && fixS (f.drop x.length) z)
  | f, [], z => by cases f <;> simp [fixS]
  | [], b :: bl, z => by simp [fixS]
  | f :: fs, b :: bl, z => by
    simp only [List.cons_append, fixS, List.length_cons, List.drop_succ_cons]
    rw [fix_append fs bl z, Bool.and_assoc]
theorem fix_bounds : ∀ (c f z : List Int), z.length = c.length → f.length = c.length → z.all isBit = true → fixS f z = true → f.all okFix = true → loS c f ≤ dotS c z ∧ dotS c z ≤ hiS c f
  | [], f, z, _, _, _, _, _ => by simp [loS, hiS, dotS]
  | c :: cs, [], z, _, h, _, _, _ => by simp at h
  | c :: cs, f :: fs, [], h, _, _, _, _ => by simp at h
  | c :: cs, f :: fs, b :: bs, h1, h2, h3, h4, h5 => by
    simp only [List.all_cons, fixS, Bool.and_eq_true] at h3 h4 h5
    have ih := fix_bounds cs fs bs (by simpa using h1) (by simpa using h2) h3.2 h4.2 h5.2
    have hk : tlo c f ≤ c * b ∧ c * b ≤ thi c f := by
      have hf : f = -1 ∨ f = b := by simpa using h4.1
      unfold tlo thi
      rcases isBit_iff.1 h3.1 with e | e <;> subst e <;> rcases hf with e | e <;> subst e <;> simp <;> (try split) <;> (try split) <;> omega
    simp only [loS, hiS, dotS]
    omega
/-- Feasible, of as many bits as there are variables. -/
def feasP (rs : List S45) (fx y : List Int) : Bool := fixS fx y && rs.all (rowS y)
theorem ext_all {n : Nat} {x y : List Int} (hx : x.all isBit = true) (h : Ext n x y) : y.all isBit = true ∧ y.length = x.length + n := by
  obtain ⟨z, h1, h2, rfl⟩ := h
  refine ⟨?_, by simp [h1]⟩
  rw [List.all_append, hx, Bool.true_and, List.all_eq_true]
  exact fun c hc => isBit_iff.2 (h2 c hc)
section
variable {v : List Int} {rs : List S45} {fx : List Int}
theorem ext_bounds (h : ValidP v rs fx) {c : List Int} (hc : c.length = v.length) {n : Nat} {x y : List Int} (hn : x.length + n = v.length) (he : Ext n x y) (hf : fixS fx y = true) :
    dotS c x + loS (c.drop x.length) (fx.drop x.length) ≤ dotS c y ∧ dotS c y ≤ dotS c x + hiS (c.drop x.length) (fx.drop x.length) := by
  obtain ⟨z, h1, h2, rfl⟩ := he
  rw [fix_append, Bool.and_eq_true] at hf
  rw [dot_append]
  have hfl := h.fixed
  have hb := fix_bounds (c.drop x.length) (fx.drop x.length) z (by rw [List.length_drop]; omega) (by rw [List.length_drop, List.length_drop]; omega) (by rw [List.all_eq_true]; exact fun c hc => isBit_iff.2 (h2 c hc)) hf.2
    (by have := h.okF; rw [List.all_eq_true] at this ⊢; exact fun y hy => this y (List.drop_subset _ _ hy))
  omega
theorem fix_at (h : ValidP v rs fx) {x : List Int} {c : Int} (hl : x.length < v.length) : fixS fx (x ++ [c]) = (fixS fx x && (rd fx (x.length : Int) == -1 || rd fx (x.length : Int) == c)) := by
  have hfl := h.fixed
  rw [fix_append, drop_rd (by omega)]
  simp [fixS]
theorem fix_kind (h : ValidP v rs fx) {i : Nat} (hl : i < v.length) : rd fx (i : Int) = -1 ∨ rd fx (i : Int) = 0 ∨ rd fx (i : Int) = 1 := by
  have h1 := all_rd h.okF (i := i) (by have := h.fixed; omega)
  unfold okFix at h1
  simp only [Bool.and_eq_true, decide_eq_true_eq] at h1
  omega
/-- Whatever leaves out no better completion, and at the end all that is not feasible and better, finds the best. -/
theorem go_best (h : ValidP v rs fx) (H : List Int → Best → Bool)
    (hH : ∀ n x b, x.all isBit = true → fixS fx x = true → x.length + n = v.length → H x b = true → ∀ y, Ext n x y → feasP rs fx y = false ∨ better b (dotS v y) = false)
    (h0 : ∀ x b, x.all isBit = true → fixS fx x = true → x.length = v.length → H x b = false → feasP rs fx x = true ∧ better b (dotS v x) = true) :
    goS H (dotS v) fx v.length [] none = dfs (feasP rs fx) (dotS v) v.length [] none := by
  refine goS_dfs (P := fun x => x.all isBit = true ∧ fixS fx x = true) v.length (fun x c hx hc hl h1 h2 => ?_) (fun n x b hx hn hh => hH n x b hx.1 hx.2 hn hh) (fun x b hx hn hh => h0 x b hx.1 hx.2 hn hh) (fun n x c hx hn hc y hy => ?_) v.length [] none ⟨rfl, by cases fx <;> rfl⟩ (by simp)
  · rw [← rd_nat] at h1 h2
    refine ⟨by rw [List.all_append, hx.1, Bool.true_and]; rcases hc with rfl | rfl <;> decide, ?_⟩
    rw [fix_at h hl, hx.2, Bool.true_and]
    have h3 := fix_kind h hl
    rcases hc with rfl | rfl
    · have := h2 rfl
      rcases h3 with e | e | e <;> simp [e] at this ⊢
    · have := h1 rfl
      rcases h3 with e | e | e <;> simp [e] at this ⊢
  · rw [← rd_nat] at hc
    obtain ⟨z, q1, q2, rfl⟩ := hy
    have hfl := h.fixed
    unfold feasP
    rw [fix_append, fix_at h (by omega)]
    rcases hc with ⟨rfl, e⟩ | ⟨rfl, e⟩ <;> simp [e]
theorem hop_best (h : ValidP v rs fx) : goS (hopP v rs fx) (dotS v) fx v.length [] none = dfs (feasP rs fx) (dotS v) v.length [] none := by
  refine go_best h _ (fun n x b hx hf hn hh y hy => ?_) (fun x b hx hf hn hh => ?_)
  · cases hfe : feasP rs fx y with
    | false => exact .inl rfl
    | true =>
      right
      unfold feasP at hfe
      rw [Bool.and_eq_true, List.all_eq_true] at hfe
      unfold hopP at hh
      rw [Bool.or_eq_true, List.any_eq_true] at hh
      rcases hh with hh | ⟨r, hr, hh⟩
      · have hb := ext_bounds h rfl hn hy hfe.1
        cases b with
        | none => simp [noBetter] at hh
        | some p =>
          simp only [noBetter, decide_eq_true_eq] at hh
          simp only [better, decide_eq_false_iff_not]
          omega
      · have hb := ext_bounds h (h.row hr).1 hn hy hfe.1
        have hrow := hfe.2 r hr
        unfold rowS at hrow
        unfold deadRow at hh
        simp only [Bool.or_eq_true, Bool.and_eq_true, decide_eq_true_eq] at hh hrow
        omega
  · unfold hopP at hh
    rw [Bool.or_eq_false_iff] at hh
    have hfl := h.fixed
    constructor
    · unfold feasP
      rw [hf, Bool.true_and, List.all_eq_true]
      intro r hr
      have h2 : ¬ deadRow fx x r = true := fun q => by
        have h3 : rs.any (deadRow fx x) = true := List.any_eq_true.2 ⟨r, hr, q⟩
        rw [hh.2] at h3; cases h3
      unfold deadRow at h2
      rw [List.drop_eq_nil_of_le (by have := (h.row hr).1; omega), List.drop_eq_nil_of_le (by omega)] at h2
      simp only [loS, hiS, Int.add_zero, Bool.or_eq_true, decide_eq_true_eq, not_or] at h2
      unfold rowS
      simp only [Bool.and_eq_true, decide_eq_true_eq]
      omega
    · cases b with
      | none => rfl
      | some p =>
        have h2 := hh.1
        simp only [noBetter] at h2
        rw [List.drop_eq_nil_of_le (by omega), List.drop_eq_nil_of_le (by omega)] at h2
        simp only [hiS, Int.add_zero, decide_eq_false_iff_not] at h2
        simp only [better, decide_eq_true_eq]
        omega
end
end Go.Proofs.Ythicnegcpafkkaa.Spec
