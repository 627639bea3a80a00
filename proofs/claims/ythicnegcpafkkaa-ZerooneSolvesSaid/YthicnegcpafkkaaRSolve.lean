/- The reference's Solve: it comes to what the program's comes to. -/
import Derived.Test.YthicnegcpafkkaaAllx8
import Derived.Test.YthicnegcpafkkaaSolveWalk
import Derived.Test.YthicnegcpafkkaaRFrom
set_option linter.unusedVariables false
set_option linter.unusedSimpArgs false
namespace Go.Proofs.Ythicnegcpafkkaa.Spec
open Go.RowKit Go.Proofs.YthicnegcpafkkaaW.PrintWords Go.Proofs.Ythicnegcpafkkaa.All Go.Proofs.Ythicnegcpafkkaa.Search
theorem lo_mid : ∀ (c x fs : List Int), x.all isBit = true → loS c (x ++ fs) = dotS c x + loS (c.drop x.length) fs ∧ hiS c (x ++ fs) = dotS c x + hiS (c.drop x.length) fs
  | c, [], fs, _ => by cases c <;> simp [dotS]
  | [], b :: bs, fs, _ => by cases fs <;> simp [loS, hiS, dotS]
  | c :: cs, b :: bs, fs, h => by
    rw [List.all_cons, Bool.and_eq_true] at h
    have ih := lo_mid cs bs fs h.2
    have hb : tlo c b = c * b ∧ thi c b = c * b := by
      rcases isBit_iff.1 h.1 with e | e <;> subst e <;> simp [tlo, thi]
    simp only [List.cons_append, loS, hiS, dotS, List.length_cons, List.drop_succ_cons]
    omega
theorem rhop_best {v : List Int} {rs : List S45} {fx : List Int} (h : ValidP v rs fx) : goS (hopR v rs fx) (dotS v) fx v.length [] none = dfs (feasP rs fx) (dotS v) v.length [] none := by
  refine go_best h _ (fun n x b hx hf hn hh y hy => ?_) (fun x b hx hf hn hh => ?_)
  · cases hfe : feasP rs fx y with
    | false => exact .inl rfl
    | true =>
      right
      unfold feasP at hfe
      rw [Bool.and_eq_true, List.all_eq_true] at hfe
      unfold hopR at hh
      rw [Bool.or_eq_true] at hh
      rcases hh with hh | hh
      · unfold hopRs at hh
        rw [List.any_eq_true] at hh
        obtain ⟨r, hr, hh⟩ := hh
        have hb := ext_bounds h (h.row hr).1 hn hy hfe.1
        have hrow := hfe.2 r hr
        obtain ⟨m1, m2⟩ := lo_mid r.f0 x (fx.drop x.length) hx
        unfold rowS at hrow
        unfold satR xmid at hh
        rw [m1, m2] at hh
        simp only [Bool.and_eq_true, decide_eq_true_eq] at hrow
        rw [decide_eq_true (show r.f1 ≤ r.f2 by omega), decide_eq_true (show dotS r.f0 x + loS (r.f0.drop x.length) (fx.drop x.length) ≤ r.f2 by omega), decide_eq_true (show dotS r.f0 x + hiS (r.f0.drop x.length) (fx.drop x.length) ≥ r.f1 by omega)] at hh
        exact absurd hh (by decide)
      · have hb := ext_bounds h rfl hn hy hfe.1
        cases b with
        | none => simp [noBetter] at hh
        | some p =>
          simp only [noBetter, decide_eq_true_eq] at hh
          simp only [better, decide_eq_false_iff_not]
          omega
  · unfold hopR at hh
    rw [Bool.or_eq_false_iff] at hh
    have hfl := h.fixed
    constructor
    · unfold feasP
      rw [hf, Bool.true_and, List.all_eq_true]
      intro r hr
      have h2 : satR r (xmid x fx) = true := by
        cases hs : satR r (xmid x fx) with
        | true => rfl
        | false =>
          have h3 : hopRs rs (xmid x fx) = true := by
            unfold hopRs
            exact List.any_eq_true.2 ⟨r, hr, by rw [hs]; rfl⟩
          rw [hh.1] at h3; cases h3
      obtain ⟨m1, m2⟩ := lo_mid r.f0 x (fx.drop x.length) hx
      unfold satR xmid at h2
      rw [m1, m2, List.drop_eq_nil_of_le (by have := (h.row hr).1; omega), List.drop_eq_nil_of_le (by omega)] at h2
      simp only [loS, hiS, Int.add_zero, Bool.and_eq_true, decide_eq_true_eq] at h2
      unfold rowS
      simp only [Bool.and_eq_true, decide_eq_true_eq]
      omega
    · cases b with
      | none => rfl
      | some p =>
        have h2 := hh.2
        simp only [noBetter] at h2
        rw [List.drop_eq_nil_of_le (by omega), List.drop_eq_nil_of_le (by omega)] at h2
        simp only [hiS, Int.add_zero, decide_eq_false_iff_not] at h2
        simp only [better, decide_eq_true_eq]
        omega
end Go.Proofs.Ythicnegcpafkkaa.Spec
namespace Go.Proofs.Ythicnegcpafkkaa.Search
open Go.RowKit Go.Proofs.YthicnegcpafkkaaW.PrintWords Go.Proofs.YthicnegcpafkkaaW.PrintLast Go.Proofs.YthicnegcpafkkaaW.PrintMore Go.Proofs.Ythicnegcpafkkaa.All Go.Proofs.Ythicnegcpafkkaa.Spec
theorem row_form {w : World} {base : Nat} {ok : Nat → Prop} {va : Value} {xs : List Int} (h : (Kd.int .i64).R 3 w base ok va xs) (hne : va.ownBlock ≠ none) :
    ∃ gx cx tl, va = .slice (some ⟨gx, 0, none⟩) xs.length cx ∧ base ≤ gx ∧ xs.length ≤ cx ∧ w.heap[gx]? = some (.cells (xrow xs tl) 3 (0, 0)) := by
  have ho : w.ownsRow base 3 1 va xs.length (encs (Value.int .i64) xs) := Kd.own_of_R h
  rcases ho.2 with ⟨rfl, _⟩ | ⟨g, cap, cur, rfl, hg, hh, hn, hm, hs, ht⟩
  · exact absurd rfl hne
  · refine ⟨g, cap, (cur.toList.drop xs.length).toArray, rfl, hg, hn, ?_⟩
    rw [hh]
    congr 2
    rw [Nat.mul_one] at ht
    apply Array.ext'
    unfold xrow
    rw [Array.toList_append]
    have h1 : (ints xs).toList = cur.toList.take xs.length := by rw [ht]; simp [ints, encs]
    rw [h1]
    simp
theorem rsrch_x {gx : Nat} {A0 A1 A2 : Option Addr} {c0 c1 c2 cx n m f : Nat} {Ab : Option Addr} {nb cp : Nat} {top : Int} (h : f = n) : rsrch gx A0 A1 A2 c0 c1 c2 cx n m f Ab nb cp top = #[.slice A0 n c0, .slice A1 m c1, .slice A2 f c2, .slice (some ⟨gx, 0, none⟩) f cx, .slice Ab nb cp, .int .i64 top] := by subst h; rfl
structure RReady (w : World) (A0 A1 A2 : Option Addr) (c0 c1 c2 : Nat) (v : List Int) (rs : List S45) (fx : List Int) (g gx cx : Nat) (tl : Array Value) (w' : World) : Prop where
  bel : Below w.heap.size w w'
  b : w'.heap[g]? = some (.cells (rsrch gx A0 A1 A2 c0 c1 c2 cx v.length rs.length fx.length none 0 0 0) 61 (0, 0))
  x : w'.heap[gx]? = some (.cells (xrow fx tl) 3 (0, 0))
  ne : gx ≠ g
  lt : w.heap.size ≤ g ∧ w.heap.size ≤ gx
  cx : v.length ≤ cx
theorem rfrom_start (g gx : Nat) (A0 A1 A2 : Option Addr) (c0 c1 c2 cx : Nat) (tl : Array Value) (v : List Int) (rs : List S45) (fx : List Int) (w w1 : World) (hP : ValidP v rs fx) (base : Nat) (hbase : base ≤ w.heap.size) (h : RReady w A0 A1 A2 c0 c1 c2 v rs fx g gx cx tl w1)
    (hV : Kd.C (Kd.int .i64) w A0 v.length v) (hR : Kd.C k45 w A1 rs.length rs) (hF : Kd.C (Kd.int .i64) w A2 fx.length fx) :
    Calls Try.prog 40 #[.pointer (some ⟨g, 0, none⟩), .int .i64 0, .int .i64 0] w1 fun e w' => e = .returned (.tuple #[]) ∧ Below w.heap.size w1 w' ∧ ∃ Ab' nb' cp' top',
      w'.heap[g]? = some (.cells (rsrch gx A0 A1 A2 c0 c1 c2 cx v.length rs.length fx.length Ab' nb' cp' top') 61 (0, 0)) ∧ BestOk (Two g gx) base w' Ab' nb' cp' top' (topS v rs fx) := by
  have came : ∀ j, j < w.heap.size → ¬ Two g gx j := fun j hj hh => by have := h.lt; rcases hh with e | e <;> omega
  have hfr : RFrame (Two g gx) A0 A1 A2 v rs fx w1 := ⟨Kd.F_mono (Kd.F_below (Kd.C_F (Kd.heap_int _) hV) h.bel) came, Kd.F_mono (Kd.F_below (Kd.C_F k45_heap hR) h.bel) came, Kd.F_mono (Kd.F_below (Kd.C_F (Kd.heap_int _) hF) h.bel) came⟩
  have h1 := rfrom_all g gx A0 A1 A2 c0 c1 c2 cx tl v rs fx hP h.cx base h.ne v.length [] none none 0 0 0 w1 (by simp) rfl (Nat.le_trans hbase h.bel.size) hfr h.b (by simpa [xmid] using h.x) ⟨rfl, fun p hp => by cases hp⟩
  rw [dot_nil, rhop_best hP] at h1
  refine Calls.mono h1 ?_
  rintro e w' ⟨rfl, hk, Ab, nb, cp, most, q1, q2, q4⟩
  refine ⟨rfl, hk.below h.bel.size (fun k hk => ?_), Ab, nb, cp, most, q1, q4⟩
  have := h.lt
  rcases hk with e | e <;> omega
set_option maxHeartbeats 8000000 in
set_option maxRecDepth 100000 in
theorem rsolve_calls (A0 : Option Addr) (c0 : Nat) (v : List Int) (A1 : Option Addr) (c1 : Nat) (rs : List S45) (A2 : Option Addr) (c2 : Nat) (fx : List Int) (r1 : List Int) (r2 r3 : Int) (w : World) (hV : Kd.C (Kd.int .i64) w A0 v.length v) (hc0 : v.length ≤ c0) (hR : Kd.C k45 w A1 rs.length rs) (hc1 : rs.length ≤ c1)
    (hF : Kd.C (Kd.int .i64) w A2 fx.length fx) (hc2 : fx.length ≤ c2) (h : solveF v rs fx = some (r1, r2, r3)) :
    Calls Try.prog 22 #[.agg #[.slice A0 v.length c0, .slice A1 rs.length c1, .slice A2 fx.length c2]] w fun e w' => ∃ v0_ : Value, e = .returned (.tuple #[v0_, .int .i64 r2, .int .i64 r3]) ∧ Kd.R (Kd.int .i64) 3 w' w.heap.size (fun _ => True) v0_ r1 ∧ Below w.heap.size w w' := by
  unfold solveF at h
  by_cases hall : rs.all (fun r => decide (r.f0.length < 9223372036854775807)) = true
  · rw [if_pos hall] at h
    obtain ⟨k, hk⟩ := (rvalid_ev v rs fx).rounds
    have hb0 := below_alloc (Below.refl w.heap.size w) (.cells #[.slice A0 v.length c0, .slice A1 rs.length c1, .slice A2 fx.length c2] 25 (0, 0))
    have HVC := Aside0.mk (examboardref34_Valid.calls k A0 c0 v A1 c1 rs A2 c2 fx _ _ (Kd.C_below hV hb0) hc0 (Kd.C_below hR hb0) hc1 (Kd.C_below hF hb0) hc2 hk)
    have HBL := Aside0.mk hb0
    have HBP := Aside0.mk (blk_new w (.cells #[.slice A0 v.length c0, .slice A1 rs.length c1, .slice A2 fx.length c2] 25 (0, 0)))
    have HV := Aside0.mk hV
    have HR := Aside0.mk hR
    have HF := Aside0.mk hF
    have HC0 := Aside0.mk hc0
    have HC2 := Aside0.mk hc2
    clear hV hR hF hc0 hc1 hc2 hall hk hb0
    by_cases hv : validS v rs fx = 0
    · have hs := Option.some.inj h
      rw [solve_valid ((validS_iff v rs fx).1 hv)] at hs
      have HH := Aside0.mk hs
      have HP := Aside0.mk ((validS_iff v rs fx).1 hv)
      rw [hv] at HVC
      clear hv hs h
      go_enter Try.func22, Try.ntmps22
      go_wp2_with (go_at_call 13; (with_reducible refine HVC.out.mono ?_); rintro e w1 ⟨rfl, hb1⟩; have HB1 := Aside0.mk (below_both HBL.out (below_low hb1 HBL.out.size)); have HP1 := Aside0.mk (blk_below HBP.out hb1); clear hb1)
      refine start_ (n := 8) (S := fun w' => w'.cell? ⟨w.heap.size, 0, none⟩ = some (.slice A0 v.length c0) ∧ w'.cell? ⟨w.heap.size, 1, none⟩ = some (.slice A1 rs.length c1) ∧ w'.cell? ⟨w.heap.size, 2, none⟩ = some (.slice A2 fx.length c2)) (ds := []) #[false, false, false, false, false, false, false, false] (by kernel_rfl) rfl rfl ⟨(blk_cell HP1.out 0).trans rfl, (blk_cell HP1.out 1).trans rfl, (blk_cell HP1.out 2).trans rfl⟩ (fun hHeld => ?_)
      have HPD := Aside0.mk (blk_drew HP1.out)
      have HBD := Aside0.mk (below_drew HB1.out)
      clear HP1 HB1
      generalize w1.drew = wd at HPD HBD hHeld ⊢
      refine pure_ (i := 2) (N := (some 14)) (v := ?_) (a' := ?_) #[false, false, true, false, false, false, false, false] rfl rfl (by kernel_rfl) (fun _ _ _ h => h) (Or.inl ⟨by rfl, ?_⟩) ?_ ?_
      rotate_left
      · intro w'; go_simp; with_reducible rfl
      rotate_left
      · simp only [Act.put, List.setIfInBounds_toArray, List.set_cons_zero, List.set_cons_succ, i64_w]; rfl
      refine take_ (i := 0) (N := (some 12)) (v := ?_) (a' := ?_) #[true, false, true, false, false, false, false, false] rfl rfl (by kernel_rfl) (fun _ _ _ h => h) (Or.inl ⟨by rfl, ?_⟩) hHeld ?_ ?_
      rotate_left
      · rintro w' ⟨s0, s1, s2⟩; go_simp; with_reducible rfl
      rotate_left
      · simp only [Act.put, List.setIfInBounds_toArray, List.set_cons_zero, List.set_cons_succ, i64_w]; rfl
      refine take_ (i := 3) (N := (some 15)) (v := ?_) (a' := ?_) #[true, false, true, true, false, false, false, false] rfl rfl (by kernel_rfl) (fun _ _ _ h => h) (Or.inl ⟨by rfl, ?_⟩) hHeld ?_ ?_
      rotate_left
      · rintro w' ⟨s0, s1, s2⟩; go_simp; with_reducible rfl
      rotate_left
      · simp only [Act.put, List.setIfInBounds_toArray, List.set_cons_zero, List.set_cons_succ, i64_w]; rfl
      refine one_ (i := 1) (N := (some 13)) #[true, true, true, true, false, false, false, false] rfl rfl (by kernel_rfl) (by decide) (fun K hK => ?_)
      refine value_ (w1 := ?_) (v := ?_) (by rfl) rfl ?_ ?_
      rotate_left 2
      · go_simp
        constructor
        · rfl
        · rfl
      refine hK.out _ _ ⟨(blk_cell (blk_alloc HPD.out _) 0).trans rfl, (blk_cell (blk_alloc HPD.out _) 1).trans rfl, (blk_cell (blk_alloc HPD.out _) 2).trans rfl⟩ (fun hHeld => ?_)
      clear hK K
      refine norm_ (a' := ?_) ?_ ?_
      rotate_left
      · show Act.put _ (some 13) _ = _
        simp only [Act.put, List.setIfInBounds_toArray, List.set_cons_zero, List.set_cons_succ, i64_w]; rfl
      refine one_ (i := 4) (N := (some 16)) #[true, true, true, true, true, false, false, false] rfl rfl (by kernel_rfl) (by decide) (fun K hK => ?_)
      have hE : (Kd.int .i64).R 3 (wd.alloc (.cells #[] 3)) wd.heap.size (fun _ => True) (.slice (some ⟨wd.heap.size, 0, none⟩) 0 0) ([] : List Int) := Kd.R_of_own (World.ownsRow_lit (base := wd.heap.size) (e := 3) (size := 1) wd #[] 0 (Nat.le_refl _) (by simp [maxLen]) (by simp)) (fun _ _ => trivial)
      have hRR : ReadsRow (fun (x : Int) (cs : List Value) => cs = [.int .i64 x]) (Kd.int .i64).sz (wd.alloc (.cells #[] 3)) A2 fx.length fx := Kd.C_below HF.out (below_alloc HBD.out _)
      refine Kd.R_append_rows_step (Kd.int .i64) (w0 := wd) wd.heap.size (by rfl) (.tmp 13) (.tmp 15) 22 3 (.int .i64 0) 8 rfl Try.underlying22 info3 rfl Nat.one_pos (by decide) (.slice (some ⟨wd.heap.size, 0, none⟩) 0 0) [] fx A2 fx.length c2 (fun _ => True) (fun _ => False) rfl rfl hE hRR (fun _ _ q => q) (fun _ q => q.elim) (fun _ _ => trivial) (below_alloc (Below.refl _ _) _) (below_alloc (Below.refl wd.heap.size wd) _).size (by have h1 := HP.out.vars; have h2 := HP.out.fixed; simp; omega) ?_
      intro v1 w3 ho hb hg hat
      rw [List.nil_append] at ho
      have hne : v1.ownBlock ≠ none := by rcases hat with e | ⟨b, e, _⟩ <;> rw [e] <;> simp [Value.ownBlock]
      obtain ⟨gx, cx, tl, rfl, hgx, hcx, hxx⟩ := row_form ho hne
      have HB3 := Aside0.mk (below_both HBD.out (below_low hb HBD.out.size))
      have HP3 := Aside0.mk (blk_below HPD.out hb)
      have HX3 := Aside0.mk hxx
      have HGX := Aside0.mk (Nat.le_trans HBD.out.size hgx)
      have HCX := Aside0.mk hcx
      clear ho hb hg hat hne hxx hgx hcx hE hRR
      refine hK.out _ _ ⟨(blk_cell HP3.out 0).trans rfl, (blk_cell HP3.out 1).trans rfl, (blk_cell HP3.out 2).trans rfl⟩ (fun hHeld => ?_)
      clear hK K
      refine norm_ (a' := ?_) ?_ ?_
      rotate_left
      · show Act.put _ (some 16) _ = _
        simp only [Act.put, List.setIfInBounds_toArray, List.set_cons_zero, List.set_cons_succ, i64_w]; rfl
      refine pure_ (i := 5) (N := (some 17)) (v := ?_) (a' := ?_) #[true, true, true, true, true, true, false, false] rfl rfl (by kernel_rfl) (fun _ _ _ h => h) (Or.inl ⟨by rfl, ?_⟩) ?_ ?_
      rotate_left
      · intro w'; go_simp; with_reducible rfl
      rotate_left
      · simp only [Act.put, List.setIfInBounds_toArray, List.set_cons_zero, List.set_cons_succ, i64_w]; rfl
      refine one_ (i := 6) (N := (some 18)) #[true, true, true, true, true, true, true, false] rfl rfl (by kernel_rfl) (by decide) (fun K hK => ?_)
      refine value_ (w1 := ?_) (v := ?_) (by rfl) rfl ?_ ?_
      rotate_left 2
      · go_simp
        constructor
        · rfl
        · rfl
      refine hK.out _ _ ⟨(blk_cell (blk_alloc HP3.out _) 0).trans rfl, (blk_cell (blk_alloc HP3.out _) 1).trans rfl, (blk_cell (blk_alloc HP3.out _) 2).trans rfl⟩ (fun hHeld => ?_)
      clear hK K
      refine norm_ (a' := ?_) ?_ ?_
      rotate_left
      · show Act.put _ (some 18) _ = _
        simp only [Act.put, List.setIfInBounds_toArray, List.set_cons_zero, List.set_cons_succ, i64_w]; rfl
      refine pure_ (i := 7) (N := (some 6)) (v := ?_) (a' := ?_) #[true, true, true, true, true, true, true, true] rfl rfl (by kernel_rfl) (fun _ _ _ h => h) (Or.inl ⟨by rfl, ?_⟩) ?_ ?_
      rotate_left
      · intro w'; go_simp; with_reducible rfl
      rotate_left
      · simp only [Act.put, List.setIfInBounds_toArray, List.set_cons_zero, List.set_cons_succ, i64_w]; rfl
      refine done_ (by kernel_rfl) ?_
      clear hHeld
      go_wp2_with (go_at_call 40; fail)
      have hrd : RReady w A0 A1 A2 c0 c1 c2 v rs fx w3.heap.size gx cx tl (w3.alloc (.cells #[.slice A0 v.length c0, .slice A1 rs.length c1, .slice A2 fx.length c2, .slice (some ⟨gx, 0, none⟩) fx.length cx, .slice none 0 0, .int .i64 0] 61)) :=
        ⟨below_alloc HB3.out _, by rw [rsrch_x HP.out.fixed]; exact blk_new _ _, blk_alloc HX3.out _, Nat.ne_of_lt (blk_lt HX3.out), ⟨HB3.out.size, HGX.out⟩, by have h1 := HCX.out; have h2 := HP.out.fixed; omega⟩
      have hfrom := rfrom_start w3.heap.size gx A0 A1 A2 c0 c1 c2 cx tl v rs fx w _ HP.out w.heap.size (Nat.le_refl _) hrd HV.out HR.out HF.out
      (with_reducible refine hfrom.mono ?_)
      rintro e w4 ⟨rfl, hb4, Ab, nb, cp, most, hg, hbo⟩
      have HB4 := Aside0.mk (below_both hrd.bel hb4)
      have HBO := Aside0.mk hbo
      have hg4 : w4.cell? ⟨w3.heap.size, 4, none⟩ = some (.slice Ab nb cp) := (blk_cell hg 4).trans rfl
      have hg5 : w4.cell? ⟨w3.heap.size, 5, none⟩ = some (.int .i64 most) := (blk_cell hg 5).trans rfl
      have hq := fun w' => Lib.run_eql_slice_nil (P := Try.prog) w' 22 3 Ab nb cp 0 0 Try.underlying22
      clear hb4 hbo hg hfrom hrd
      cases hgo : topS v rs fx with
      | none =>
        have h1 := HBO.out
        have h2 := HH.out
        rw [hgo] at h1 h2
        obtain ⟨e1, e2⟩ := Prod.mk.inj h2
        obtain ⟨e2, e3⟩ := Prod.mk.inj e2
        subst e1 e2 e3
        have hA : Ab = none := h1.1
        subst hA
        clear h1 h2 hgo HH
        go_wp2
        ((try simp only [Exit.inBlock, Exit.then]); refine bodyPost_ret (results_tmp3 rfl _ _ _) rfl ?_)
        exact ⟨_, rfl, Kd.R_nil _ _ _ _ _, HB4.out⟩
      | some p =>
        have h1 := HBO.out
        have h2 := HH.out
        rw [hgo] at h1 h2
        obtain ⟨e1, e2⟩ := Prod.mk.inj h2
        obtain ⟨e2, e3⟩ := Prod.mk.inj e2
        subst e1 e2 e3
        obtain ⟨⟨hA, hm⟩, hR⟩ := h1
        subst hm
        have HRES := Aside0.mk (Kd.R_mono (hR p rfl) (fun _ _ => trivial))
        cases Ab with
        | none => exact absurd hA (by simp)
        | some ab =>
          clear h2 hgo HH hA hR
          go_wp2
          go_region
          all_goals
            go_wp2_with fail
            ((try simp only [Exit.inBlock, Exit.then]); refine bodyPost_ret (results_tmp3 rfl _ _ _) rfl ?_)
            exact ⟨_, rfl, Kd.R_below HRES.out (below_drew (Below.refl _ _)), below_drew HB4.out⟩
    · have hs := Option.some.inj h
      rw [solve_bad hv] at hs
      obtain ⟨e1, e2⟩ := Prod.mk.inj hs
      obtain ⟨e2, e3⟩ := Prod.mk.inj e2
      subst e1 e2 e3
      have hne : (validS v rs fx != 0) = true := by simpa [bne] using hv
      clear hs h hv
      go_enter Try.func22, Try.ntmps22
      go_wp2_with (go_at_call 13; (with_reducible refine HVC.out.mono ?_); rintro e w1 ⟨rfl, hb1⟩; have HB1 := Aside0.mk (below_both HBL.out (below_low hb1 HBL.out.size)); clear hb1)
      ((try simp only [Exit.inBlock, Exit.then]); refine bodyPost_ret (results_tmp3 rfl _ _ _) rfl ?_)
      exact ⟨_, rfl, Kd.R_nil _ _ _ _ _, HB1.out⟩
  · rw [if_neg hall] at h
    exact absurd h (by simp)
end Go.Proofs.Ythicnegcpafkkaa.Search
