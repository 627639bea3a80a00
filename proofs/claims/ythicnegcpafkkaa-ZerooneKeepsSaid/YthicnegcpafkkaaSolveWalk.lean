/- Solve: what the program's search comes to; the best assignment is feasible, and none is better. -/
import Derived.Test.YthicnegcpafkkaaAllx4
import Derived.Test.YthicnegcpafkkaaFrom
import Derived.Test.YthicnegcpafkkaaNews
import Derived.Test.YthicnegcpafkkaaTrack
set_option linter.unusedVariables false
set_option linter.unusedSimpArgs false
namespace Go.Proofs.Ythicnegcpafkkaa.Search
open Go.RowKit Go.Proofs.YthicnegcpafkkaaW.PrintWords Go.Proofs.YthicnegcpafkkaaW.PrintLast Go.Proofs.YthicnegcpafkkaaW.PrintMore Go.Proofs.Ythicnegcpafkkaa.All Go.Proofs.Ythicnegcpafkkaa.Spec
theorem from_all (g gs gx : Nat) (A0 A1 A2 Al Ah Ar : Option Addr) (c0 c1 c2 cl ch cr : Nat) (v : List Int) (rs : List S45) (fx : List Int) (hP : ValidP v rs fx) (base : Nat) (hne : g ≠ gs ∧ gx ≠ g ∧ gx ≠ gs) : ∀ n, FromSpec g gs gx A0 A1 A2 Al Ah Ar c0 c1 c2 cl ch cr v rs fx base n
  | 0 => from_zero g gs gx A0 A1 A2 Al Ah Ar c0 c1 c2 cl ch cr v rs fx hP base hne
  | n + 1 => from_succ g gs gx A0 A1 A2 Al Ah Ar c0 c1 c2 cl ch cr v rs fx hP base hne n (from_all g gs gx A0 A1 A2 Al Ah Ar c0 c1 c2 cl ch cr v rs fx hP base hne n)
theorem dot_nil (v : List Int) : dotS v [] = 0 := by cases v <;> rfl
theorem sumsOf_nil (rs : List S45) : sumsOf rs [] = List.replicate rs.length 0 := by
  induction rs with
  | nil => rfl
  | cons r rs ih => rw [List.length_cons, List.replicate_succ, ← ih, sumsOf, List.map_cons, dot_nil]; rfl
/-- The search of a valid program, from its beginning. -/
theorem from_start (g gs gx : Nat) (A0 A1 A2 Al Ah Ar : Option Addr) (c0 c1 c2 cl ch cr : Nat) (v : List Int) (rs : List S45) (fx : List Int) (w w1 : World) (hP : ValidP v rs fx) (base : Nat) (hbase : base ≤ w.heap.size) (h : Ready w A0 A1 A2 c0 c1 c2 v rs fx g gs gx Al Ah Ar cl ch cr w1) :
    Calls Try.prog 39 #[.pointer (some ⟨g, 0, none⟩), .int .i64 0] w1 fun e w' => e = .returned (.tuple #[]) ∧ Below w.heap.size w1 w' ∧ ∃ Ab' nb' cp' most',
      w'.heap[g]? = some (.cells (srch gs gx A0 A1 A2 Al Ah Ar c0 c1 c2 cl ch cr v.length rs.length fx.length 0 Ab' nb' cp' most') 58 (0, 0)) ∧ BestOk (Three g gs gx) base w' Ab' nb' cp' most' (goS (hopP v rs fx) (dotS v) fx v.length [] none) := by
  have h1 := from_all g gs gx A0 A1 A2 Al Ah Ar c0 c1 c2 cl ch cr v rs fx hP base h.ne v.length [] none none 0 0 0 w1 (by simp) rfl (Nat.le_trans hbase h.bel.size) h.F (by rw [dot_nil]; exact h.b) (by rw [sumsOf_nil]; exact h.s) (by simpa [bitsUp] using h.x) ⟨rfl, fun p hp => by cases hp⟩
  refine Calls.mono h1 ?_
  rintro e w' ⟨rfl, hk, Ab, nb, cp, most, q1, q2, q3, q4⟩
  refine ⟨rfl, hk.below h.bel.size (fun k hk => ?_), Ab, nb, cp, most, ?_, q4⟩
  · have := h.lt
    rcases hk with e | e | e <;> omega
  · rw [dot_nil] at q1; exact q1
def bestS : Best → List Int × Int × Int
  | none => ([], 0, 14)
  | some p => (p.1, p.2, 0)
def solveS (v : List Int) (rs : List S45) (fx : List Int) : List Int × Int × Int := if validS v rs fx = 0 then bestS (goS (hopP v rs fx) (dotS v) fx v.length [] none) else ([], 0, validS v rs fx)
def solveF (v : List Int) (rs : List S45) (fx : List Int) : Option (List Int × Int × Int) := if rs.all (fun r => decide (r.f0.length < 9223372036854775807)) = true then some (solveS v rs fx) else none
set_option maxHeartbeats 8000000 in
set_option maxRecDepth 100000 in
theorem solve_calls (A0 : Option Addr) (c0 : Nat) (v : List Int) (A1 : Option Addr) (c1 : Nat) (rs : List S45) (A2 : Option Addr) (c2 : Nat) (fx : List Int) (r1 : List Int) (r2 r3 : Int) (w : World) (hV : Kd.C (Kd.int .i64) w A0 v.length v) (hc0 : v.length ≤ c0) (hR : Kd.C k45 w A1 rs.length rs) (hc1 : rs.length ≤ c1)
    (hF : Kd.C (Kd.int .i64) w A2 fx.length fx) (hc2 : fx.length ≤ c2) (h : solveF v rs fx = some (r1, r2, r3)) :
    Calls Try.prog 21 #[.agg #[.slice A0 v.length c0, .slice A1 rs.length c1, .slice A2 fx.length c2]] w fun e w' => ∃ v0_ : Value, e = .returned (.tuple #[v0_, .int .i64 r2, .int .i64 r3]) ∧ Kd.R (Kd.int .i64) 3 w' w.heap.size (fun _ => True) v0_ r1 ∧ Below w.heap.size w w' := by
  unfold solveF at h
  by_cases hall : rs.all (fun r => decide (r.f0.length < 9223372036854775807)) = true
  · rw [if_pos hall] at h
    have hcs : ∀ r ∈ rs, r.f0.length < 9223372036854775807 := fun r hr => by simpa using List.all_eq_true.1 hall r hr
    obtain ⟨k, hk⟩ := (valid_ev v rs fx hcs).rounds
    have hb0 := below_alloc (Below.refl w.heap.size w) (.cells #[.slice A0 v.length c0, .slice A1 rs.length c1, .slice A2 fx.length c2] 25 (0, 0))
    have HVC := Aside0.mk (zeroone_Valid.calls k A0 c0 v A1 c1 rs A2 c2 fx _ _ (Kd.C_below hV hb0) hc0 (Kd.C_below hR hb0) hc1 (Kd.C_below hF hb0) hc2 hk)
    have HBL := Aside0.mk hb0
    have HBP := Aside0.mk (blk_new w (.cells #[.slice A0 v.length c0, .slice A1 rs.length c1, .slice A2 fx.length c2] 25 (0, 0)))
    have HV := Aside0.mk hV
    have HR := Aside0.mk hR
    have HF := Aside0.mk hF
    have HC0 := Aside0.mk hc0
    have HC2 := Aside0.mk hc2
    clear hV hR hF hc0 hc1 hc2 hall hcs hk hb0
    by_cases hv : validS v rs fx = 0
    · have hs := Option.some.inj h
      unfold solveS at hs
      rw [if_pos hv] at hs
      have HH := Aside0.mk hs
      have HP := Aside0.mk ((validS_iff v rs fx).1 hv)
      rw [hv] at HVC
      clear hv hs h
      go_enter Try.func21, Try.ntmps21
      go_wp2_with (go_at_call 12; (with_reducible refine HVC.out.mono ?_); rintro e w1 ⟨rfl, hb1⟩; have HB1 := Aside0.mk (below_both HBL.out (below_low hb1 HBL.out.size)); have HP1 := Aside0.mk (blk_below HBP.out hb1); have hp0 : w1.cell? ⟨w.heap.size, 0, none⟩ = some (.slice A0 v.length c0) := (blk_cell (blk_below HBP.out hb1) 0).trans rfl; have hp1 : w1.cell? ⟨w.heap.size, 1, none⟩ = some (.slice A1 rs.length c1) := (blk_cell (blk_below HBP.out hb1) 1).trans rfl; have hp2 : w1.cell? ⟨w.heap.size, 2, none⟩ = some (.slice A2 fx.length c2) := (blk_cell (blk_below HBP.out hb1) 2).trans rfl; clear hb1)
      have hnew := new_walk A0 A1 A2 c0 c1 c2 v rs fx w1 HP.out (Kd.C_below HV.out HB1.out) (Kd.C_below HR.out HB1.out) (Kd.C_below HF.out HB1.out) HC2.out HC0.out
      clear hp0 hp1 hp2
      (with_reducible refine hnew.mono ?_)
      rintro e w2 ⟨g, gs, gx, Al, Ah, Ar, cl, ch, cr, rfl, hr⟩
      have HRD := Aside0.mk hr
      clear hr hnew
      go_wp2_with (go_at_call 39; fail)
      have hfrom := from_start g gs gx A0 A1 A2 Al Ah Ar c0 c1 c2 cl ch cr v rs fx w1 w2 HP.out w.heap.size HB1.out.size HRD.out
      (with_reducible refine hfrom.mono ?_)
      rintro e w3 ⟨rfl, hb3, Ab, nb, cp, most, hg, hbo⟩
      have HB3 := Aside0.mk (below_both HB1.out (below_low (below_both HRD.out.bel hb3) HB1.out.size))
      have HBO := Aside0.mk hbo
      have hg9 : w3.cell? ⟨g, 9, none⟩ = some (.slice Ab nb cp) := (blk_cell hg 9).trans rfl
      have hg10 : w3.cell? ⟨g, 10, none⟩ = some (.int .i64 most) := (blk_cell hg 10).trans rfl
      have hq := fun w' => Lib.run_eql_slice_nil (P := Try.prog) w' 22 3 Ab nb cp 0 0 Try.underlying22
      clear hb3 hbo hg hfrom
      cases hgo : goS (hopP v rs fx) (dotS v) fx v.length [] none with
      | none =>
        have h1 := HBO.out
        have h2 := HH.out
        rw [hgo] at h1 h2
        obtain ⟨e1, e2⟩ := Prod.mk.inj h2
        obtain ⟨e2, e3⟩ := Prod.mk.inj e2
        subst e1 e2 e3
        have hA : Ab = none := h1.1
        subst hA
        clear h1 h2 hgo HH
        go_wp2
        ((try simp only [Exit.inBlock, Exit.then]); refine bodyPost_ret (results_tmp3 rfl _ _ _) rfl ?_)
        exact ⟨_, rfl, Kd.R_nil _ _ _ _ _, HB3.out⟩
      | some p =>
        have h1 := HBO.out
        have h2 := HH.out
        rw [hgo] at h1 h2
        obtain ⟨e1, e2⟩ := Prod.mk.inj h2
        obtain ⟨e2, e3⟩ := Prod.mk.inj e2
        subst e1 e2 e3
        obtain ⟨⟨hA, hm⟩, hR⟩ := h1
        subst hm
        have HRES := Aside0.mk (Kd.R_mono (hR p rfl) (fun _ _ => trivial))
        cases Ab with
        | none => exact absurd hA (by simp)
        | some ab =>
          clear h2 hgo HH hA hR
          go_wp2
          go_region
          all_goals
            go_wp2_with fail
            ((try simp only [Exit.inBlock, Exit.then]); refine bodyPost_ret (results_tmp3 rfl _ _ _) rfl ?_)
            exact ⟨_, rfl, Kd.R_below HRES.out (below_drew (Below.refl _ _)), below_drew HB3.out⟩
    · have hs := Option.some.inj h
      unfold solveS at hs
      rw [if_neg hv] at hs
      obtain ⟨e1, e2⟩ := Prod.mk.inj hs
      obtain ⟨e2, e3⟩ := Prod.mk.inj e2
      subst e1 e2 e3
      have hne : (validS v rs fx != 0) = true := by simpa [bne] using hv
      clear hs h hv
      go_enter Try.func21, Try.ntmps21
      go_wp2_with (go_at_call 12; (with_reducible refine HVC.out.mono ?_); rintro e w1 ⟨rfl, hb1⟩; have HB1 := Aside0.mk (below_both HBL.out (below_low hb1 HBL.out.size)); clear hb1)
      ((try simp only [Exit.inBlock, Exit.then]); refine bodyPost_ret (results_tmp3 rfl _ _ _) rfl ?_)
      exact ⟨_, rfl, Kd.R_nil _ _ _ _ _, HB1.out⟩
  · rw [if_neg hall] at h
    exact absurd h (by simp)
end Go.Proofs.Ythicnegcpafkkaa.Search
set_option linter.unusedVariables false
namespace Go.Proofs.Ythicnegcpafkkaa.Spec
open Go.RowKit Go.Proofs.YthicnegcpafkkaaW.PrintWords Go.Proofs.Ythicnegcpafkkaa.All Go.Proofs.Ythicnegcpafkkaa.Search
theorem dfs_mem {F : List Int → Bool} {val : List Int → Int} : ∀ (n : Nat) (x : List Int) (b : Best), dfs F val n x b = b ∨ ∃ y, Ext n x y ∧ F y = true ∧ dfs F val n x b = some (y, val y)
  | 0, x, b => by
    simp only [dfs]
    by_cases h : (F x && better b (val x)) = true
    · rw [if_pos h]
      rw [Bool.and_eq_true] at h
      exact .inr ⟨x, Ext.zero, h.1, rfl⟩
    · rw [if_neg h]; exact .inl rfl
  | n + 1, x, b => by
    simp only [dfs]
    rcases dfs_mem n (x ++ [0]) (dfs F val n (x ++ [1]) b) with h | ⟨y, h1, h2, h3⟩
    · rw [h]
      rcases dfs_mem n (x ++ [1]) b with h | ⟨y, h1, h2, h3⟩
      · exact .inl h
      · exact .inr ⟨y, h1.cons (.inr rfl), h2, h3⟩
    · exact .inr ⟨y, h1.cons (.inl rfl), h2, h3⟩
theorem better_trans {b c : Best} {t : Int} (h : better b t = false) (hc : c = b ∨ ∃ p, c = some p ∧ better b p.2 = true) : better c t = false := by
  rcases hc with rfl | ⟨p, rfl, hp⟩
  · exact h
  · cases b with
    | none => simp [better] at h
    | some q =>
      simp only [better, decide_eq_false_iff_not, decide_eq_true_eq] at h hp ⊢
      omega
theorem dfs_keep {F : List Int → Bool} {val : List Int → Int} {t : Int} : ∀ (n : Nat) (x : List Int) (b : Best), better b t = false → better (dfs F val n x b) t = false
  | 0, x, b, h => by
    simp only [dfs]
    by_cases q : (F x && better b (val x)) = true
    · rw [if_pos q]
      rw [Bool.and_eq_true] at q
      exact better_trans h (.inr ⟨_, rfl, q.2⟩)
    · rw [if_neg q]; exact h
  | n + 1, x, b, h => by
    simp only [dfs]
    exact dfs_keep n _ _ (dfs_keep n _ _ h)
theorem dfs_max {F : List Int → Bool} {val : List Int → Int} : ∀ (n : Nat) (x : List Int) (b : Best) (y : List Int), Ext n x y → F y = true → better (dfs F val n x b) (val y) = false
  | 0, x, b, y, hy, hF => by
    have e := hy.eq
    subst e
    simp only [dfs]
    by_cases q : better b (val y) = true
    · rw [if_pos (by rw [hF, q]; rfl)]; simp [better]
    · rw [if_neg (by rw [hF]; simpa using q)]; simpa using q
  | n + 1, x, b, y, hy, hF => by
    simp only [dfs]
    rcases hy.cases with h | h
    · exact dfs_max n _ _ y h hF
    · exact dfs_keep n _ _ (dfs_max n _ _ y h hF)
theorem ext_all_bits {n : Nat} {y : List Int} : Ext n [] y ↔ y.all isBit = true ∧ y.length = n := by
  constructor
  · intro h
    have := ext_all (x := []) rfl h
    simpa using this
  · rintro ⟨h1, h2⟩
    refine ⟨y, h2, fun c hc => isBit_iff.1 (List.all_eq_true.1 h1 c hc), rfl⟩
/-- The best of a program. -/
def topS (v : List Int) (rs : List S45) (fx : List Int) : Best := dfs (feasP rs fx) (dotS v) v.length [] none
theorem solve_valid {v : List Int} {rs : List S45} {fx : List Int} (h : ValidP v rs fx) : solveS v rs fx = bestS (topS v rs fx) := by
  unfold solveS topS
  rw [if_pos ((validS_iff v rs fx).2 h), hop_best h]
theorem solve_bad {v : List Int} {rs : List S45} {fx : List Int} (h : validS v rs fx ≠ 0) : solveS v rs fx = ([], 0, validS v rs fx) := by
  unfold solveS
  rw [if_neg h]
theorem solveF_some {v : List Int} {rs : List S45} {fx : List Int} (hcs : ∀ r ∈ rs, r.f0.length < 9223372036854775807) : solveF v rs fx = some (solveS v rs fx) := by
  unfold solveF
  rw [if_pos]
  rw [List.all_eq_true]
  exact fun r hr => decide_eq_true (hcs r hr)
theorem top_some {v : List Int} {rs : List S45} {fx : List Int} {p : List Int × Int} (h : topS v rs fx = some p) : p.1.all isBit = true ∧ p.1.length = v.length ∧ feasP rs fx p.1 = true ∧ p.2 = dotS v p.1 := by
  unfold topS at h
  rcases dfs_mem (F := feasP rs fx) (val := dotS v) v.length [] none with q | ⟨y, h1, h2, h3⟩
  · rw [h] at q; cases q
  · rw [h] at h3
    obtain rfl := Option.some.inj h3
    obtain ⟨a, b⟩ := ext_all_bits.1 h1
    exact ⟨a, b, h2, rfl⟩
theorem top_max {v : List Int} {rs : List S45} {fx y : List Int} (hy : y.all isBit = true) (hl : y.length = v.length) (hf : feasP rs fx y = true) : ∃ p, topS v rs fx = some p ∧ dotS v y ≤ p.2 := by
  have h := dfs_max (F := feasP rs fx) (val := dotS v) v.length [] none y (ext_all_bits.2 ⟨hy, hl⟩) hf
  unfold topS
  cases hq : dfs (feasP rs fx) (dotS v) v.length [] none with
  | none => rw [hq] at h; simp [better] at h
  | some p =>
    rw [hq] at h
    simp only [better, decide_eq_false_iff_not] at h
    exact ⟨p, rfl, by omega⟩
theorem top_none {v : List Int} {rs : List S45} {fx y : List Int} (h : topS v rs fx = none) (hy : y.all isBit = true) (hl : y.length = v.length) : feasP rs fx y = false := by
  cases hf : feasP rs fx y with
  | false => rfl
  | true =>
    obtain ⟨p, hp, _⟩ := top_max hy hl hf
    rw [h] at hp; cases hp
theorem feas_valid {v : List Int} {rs : List S45} {fx y : List Int} (h : ValidP v rs fx) (hy : y.all isBit = true) (hl : y.length = v.length) : feasS v rs fx y = feasP rs fx y := by
  unfold feasS feasP bitsS
  rw [decide_eq_true ((validS_iff v rs fx).2 h), decide_eq_true hl, hy]; rfl
/-- The assignment that takes all that counts. -/
def takeS : List Int → List Int → List Int
  | c :: cs, f :: fs => (if f = -1 then (if 0 < c then 1 else 0) else f) :: takeS cs fs
  | _, _ => []
theorem take_best : ∀ (c f : List Int), f.length = c.length → f.all okFix = true → (takeS c f).all isBit = true ∧ (takeS c f).length = c.length ∧ fixS f (takeS c f) = true ∧ dotS c (takeS c f) = hiS c f
  | [], [], _, _ => by simp [takeS, fixS, dotS, hiS]
  | [], f :: fs, h, _ => by simp at h
  | c :: cs, [], h, _ => by simp at h
  | c :: cs, f :: fs, h, h2 => by
    rw [List.all_cons, Bool.and_eq_true] at h2
    obtain ⟨q1, q2, q3, q4⟩ := take_best cs fs (by simpa using h) h2.2
    have hf : f = -1 ∨ f = 0 ∨ f = 1 := by
      have h1 := h2.1
      unfold okFix at h1
      simp only [Bool.and_eq_true, decide_eq_true_eq] at h1
      omega
    simp only [takeS, List.all_cons, List.length_cons, fixS, dotS, hiS, q1, q2, q3, q4, Bool.and_true]
    rcases hf with e | e | e <;> subst e
    · by_cases hc : 0 < c
      · simp [hc, thi]; decide
      · simp [hc, thi]; decide
    · simp [thi]; decide
    · simp [thi]; decide
end Go.Proofs.Ythicnegcpafkkaa.Spec
