-- Written by myprint.py for this claim: functions of the program as Lean functions, with the proofs that the calls come to them.
import Derived.Test.YtkajeeikpffioaaAllx0
import Derived.Test.YtkajeeikpffioaaAllx2
import Derived.Test.YtkajeeikpffioaaAllx3
import Derived.Test.YtkajeeikpffioaaAllx15
import Derived.Test.YtkajeeikpffioaaAllx17
import Derived.Test.YtkajeeikpffioaaAllx18
namespace Go.Proofs.Ytkajeeikpffioaa.All
open Go.RowKit Go.Proofs.YtkajeeikpffioaaW.PrintWords Go.Proofs.YtkajeeikpffioaaW.PrintLast Go.Proofs.YtkajeeikpffioaaW.PrintMore
attribute [local go_sem] max2_int min2_int max_two min_two max_three min_three max_four min_four   -- for this text's walks alone
set_option linter.unusedVariables false
set_option linter.unusedSimpArgs false

/-! ### examboardlaw43_AdjudicateOthers: function 3 -/
mutual
def examboardlaw43_AdjudicateOthers.l0 : Nat → List (S31) → Int → List (S31) → List (S31) → Int → Int → Int → Int → Int → List (S59) → Option (Bool)
 | 0, _, _, _, _, _, _, _, _, _, _ => none
 | k + 1, x2, x3, x9, x26, x27, x28, x329000, x329001, x330000, x330001 => if x28 < x27 then (if 0 ≤ x28 then (if x28 < (x26.length : Int) then (if ((rd_T31 x26 x28).f1) = x3 then (if x9.length < 3518437208883 then (examboardlaw43_AdjudicateOthers.l0 k x2 x3 (x9 ++ [(⟨(rd_T31 x26 x28).f0, (rd_T31 x26 x28).f1, (rd_T31 x26 x28).f2⟩ : S31)]) x26 x27 (wrap64 (x28 + 1)) x329000 x329001 x330000 x330001) else (none)) else (examboardlaw43_AdjudicateOthers.l0 k x2 x3 x9 x26 x27 (wrap64 (x28 + 1)) x329000 x329001 x330000 x330001)) else (none)) else (none)) else ((adjudicate_Pick.f k x2 x3).bind fun bt336 => ((adjudicate_Pick.f k x9 x3).bind fun bt340 => ((adjudicate_Essay.f k x329000 x329001 x330000 x330001 x2 x3).bind fun bt344 => ((adjudicate_Essay.f k x329000 x329001 x330000 x330001 x9 x3).bind fun bt346 => ((examboardlaw43_equal.f k bt336.1 bt340.1).bind fun t348 => (if t348 = true then (if bt336.2 = bt340.2 then (if bt344.1 = bt346.1 then (examboardlaw43_AdjudicateOthers.j1 k x9 bt336.1 bt336.2 bt344.1 bt344.2 (bt344.2 != bt346.2) x329000 x329001 x330000 x330001) else (examboardlaw43_AdjudicateOthers.j1 k x9 bt336.1 bt336.2 bt344.1 bt344.2 true x329000 x329001 x330000 x330001)) else (examboardlaw43_AdjudicateOthers.j1 k x9 bt336.1 bt336.2 bt344.1 bt344.2 true x329000 x329001 x330000 x330001)) else (examboardlaw43_AdjudicateOthers.j1 k x9 bt336.1 bt336.2 bt344.1 bt344.2 true x329000 x329001 x330000 x330001)))))))
def examboardlaw43_AdjudicateOthers.j1 : Nat → List (S31) → List (List Int) → Int → Int → Int → Bool → Int → Int → Int → List (S59) → Option (Bool)
 | 0, _, _, _, _, _, _, _, _, _, _ => none
 | k + 1, x9, x12, x13, x16, x17, x87, x329000, x329001, x330000, x330001 => if x87 = true then (some false) else (if x13 = 0 then ((adjudicate_Score.f k x329000 x329001 x330000 x330001 x12).bind fun bt349 => (if (x12.length : Int) = (x9.length : Int) then (if x16 = bt349.1 then (if x17 = bt349.2 then ((examboardlaw43_awake.f k).bind fun t351 => (some t351)) else (some false)) else (some false)) else (some false))) else (if (x12.length : Int) = 0 then (if x13 = 10 then (if x17 = x13 then ((examboardlaw43_awake.f k).bind fun t352 => (some t352)) else (some false)) else (some false)) else (some false)))
end
def examboardlaw43_AdjudicateOthers.f (k : Nat) (a0_0 : Int) (a0_1 : Int) (a1_0 : Int) (l1_1 : List (S59)) (l2 : List (S31)) (a3 : Int) : Option (Bool) := if (l2.length : Int) > 300 then ((examboardlaw43_awake.f k).bind fun t330 => (some t330)) else (examboardlaw43_AdjudicateOthers.l0 k l2 a3 ([] : List (S31)) l2 (l2.length : Int) 0 a0_0 a0_1 a1_0 l1_1)
theorem examboardlaw43_AdjudicateOthers.mono_l : ∀ k, (∀ y0 y1 y2 y3 y4 y5 y6 y7 y8 y9, LeO (examboardlaw43_AdjudicateOthers.l0 k y0 y1 y2 y3 y4 y5 y6 y7 y8 y9) (examboardlaw43_AdjudicateOthers.l0 (k + 1) y0 y1 y2 y3 y4 y5 y6 y7 y8 y9)) ∧ (∀ y0 y1 y2 y3 y4 y5 y6 y7 y8 y9, LeO (examboardlaw43_AdjudicateOthers.j1 k y0 y1 y2 y3 y4 y5 y6 y7 y8 y9) (examboardlaw43_AdjudicateOthers.j1 (k + 1) y0 y1 y2 y3 y4 y5 y6 y7 y8 y9))
 | 0 => ⟨fun _ _ _ _ _ _ _ _ _ _ r h => by simp [examboardlaw43_AdjudicateOthers.l0] at h, fun _ _ _ _ _ _ _ _ _ _ r h => by simp [examboardlaw43_AdjudicateOthers.j1] at h⟩
 | k + 1 => by
  obtain ⟨ih0, ih1⟩ := examboardlaw43_AdjudicateOthers.mono_l k
  refine ⟨?_, ?_⟩
  ·
   intro y0 y1 y2 y3 y4 y5 y6 y7 y8 y9
   unfold examboardlaw43_AdjudicateOthers.l0
   repeat' first
   | (with_reducible exact ih0 _ _ _ _ _ _ _ _ _ _)
   | (with_reducible exact ih1 _ _ _ _ _ _ _ _ _ _)
   | (with_reducible exact adjudicate_Essay.mono _ _ _ _ _ _ _)
   | (with_reducible exact adjudicate_Pick.mono _ _ _)
   | (with_reducible exact adjudicate_Score.mono _ _ _ _ _ _)
   | (with_reducible exact examboardlaw43_awake.mono _)
   | (with_reducible exact examboardlaw43_equal.mono _ _ _)
   | (with_reducible exact LeO.refl _)
   | (with_reducible exact LeO.none _)
   | (with_reducible refine LeO.ite ?_ ?_)
   | (with_reducible refine LeO.bind ?_ (fun _ => ?_))
   | exact ih0 _ _ _ _ _ _ _ _ _ _
   | exact ih1 _ _ _ _ _ _ _ _ _ _
   | exact adjudicate_Essay.mono _ _ _ _ _ _ _
   | exact adjudicate_Pick.mono _ _ _
   | exact adjudicate_Score.mono _ _ _ _ _ _
   | exact examboardlaw43_awake.mono _
   | exact examboardlaw43_equal.mono _ _ _
   | exact LeO.none _
   | refine LeO.ite ?_ ?_
   | refine LeO.bind ?_ (fun _ => ?_)
  ·
   intro y0 y1 y2 y3 y4 y5 y6 y7 y8 y9
   unfold examboardlaw43_AdjudicateOthers.j1
   repeat' first
   | (with_reducible exact ih0 _ _ _ _ _ _ _ _ _ _)
   | (with_reducible exact ih1 _ _ _ _ _ _ _ _ _ _)
   | (with_reducible exact adjudicate_Essay.mono _ _ _ _ _ _ _)
   | (with_reducible exact adjudicate_Pick.mono _ _ _)
   | (with_reducible exact adjudicate_Score.mono _ _ _ _ _ _)
   | (with_reducible exact examboardlaw43_awake.mono _)
   | (with_reducible exact examboardlaw43_equal.mono _ _ _)
   | (with_reducible exact LeO.refl _)
   | (with_reducible exact LeO.none _)
   | (with_reducible refine LeO.ite ?_ ?_)
   | (with_reducible refine LeO.bind ?_ (fun _ => ?_))
   | exact ih0 _ _ _ _ _ _ _ _ _ _
   | exact ih1 _ _ _ _ _ _ _ _ _ _
   | exact adjudicate_Essay.mono _ _ _ _ _ _ _
   | exact adjudicate_Pick.mono _ _ _
   | exact adjudicate_Score.mono _ _ _ _ _ _
   | exact examboardlaw43_awake.mono _
   | exact examboardlaw43_equal.mono _ _ _
   | exact LeO.none _
   | refine LeO.ite ?_ ?_
   | refine LeO.bind ?_ (fun _ => ?_)
theorem examboardlaw43_AdjudicateOthers.mono : ∀ a0 a1 a2 a3 a4 a5 k, LeO (examboardlaw43_AdjudicateOthers.f k a0 a1 a2 a3 a4 a5) (examboardlaw43_AdjudicateOthers.f (k + 1) a0 a1 a2 a3 a4 a5) := by
 intro a0 a1 a2 a3 a4 a5 k
 obtain ⟨ih0, ih1⟩ := examboardlaw43_AdjudicateOthers.mono_l k
 unfold examboardlaw43_AdjudicateOthers.f
 repeat' first
   | (with_reducible exact ih0 _ _ _ _ _ _ _ _ _ _)
   | (with_reducible exact ih1 _ _ _ _ _ _ _ _ _ _)
   | (with_reducible exact adjudicate_Essay.mono _ _ _ _ _ _ _)
   | (with_reducible exact adjudicate_Pick.mono _ _ _)
   | (with_reducible exact adjudicate_Score.mono _ _ _ _ _ _)
   | (with_reducible exact examboardlaw43_awake.mono _)
   | (with_reducible exact examboardlaw43_equal.mono _ _ _)
   | (with_reducible exact LeO.refl _)
   | (with_reducible exact LeO.none _)
   | (with_reducible refine LeO.ite ?_ ?_)
   | (with_reducible refine LeO.bind ?_ (fun _ => ?_))
   | exact ih0 _ _ _ _ _ _ _ _ _ _
   | exact ih1 _ _ _ _ _ _ _ _ _ _
   | exact adjudicate_Essay.mono _ _ _ _ _ _ _
   | exact adjudicate_Pick.mono _ _ _
   | exact adjudicate_Score.mono _ _ _ _ _ _
   | exact examboardlaw43_awake.mono _
   | exact examboardlaw43_equal.mono _ _ _
   | exact LeO.none _
   | refine LeO.ite ?_ ?_
   | refine LeO.bind ?_ (fun _ => ?_)
set_option maxHeartbeats 8000000 in
set_option maxRecDepth 100000 in
theorem examboardlaw43_AdjudicateOthers.calls (k : Nat) (a0_0 : Int) (a0_1 : Int) (a1_0 : Int) (A1_1 : Option Addr) (c1_1 : Nat) (l1_1 : List (S59)) (P2_ : Nat → Prop) (A2 : Option Addr) (c2 : Nat) (l2 : List (S31)) (a3 : Int) (r : Bool) (w : World) (hr1_1 : Kd.C k59 w A1_1 l1_1.length l1_1) (hc1_1 : l1_1.length ≤ c1_1) (hs2 : Kd.V k31 31 w w.heap.size (fun k_ => P2_ k_) (.slice A2 l2.length c2) l2) (h : examboardlaw43_AdjudicateOthers.f k a0_0 a0_1 a1_0 l1_1 l2 a3 = some r) :
  Calls Try.prog 3 #[.agg #[.int .i64 a0_0, .int .i64 a0_1], .agg #[.int .i64 a1_0, .slice A1_1 l1_1.length c1_1], .slice A2 l2.length c2, .int .i64 a3] w fun e w' => e = .returned (.bool r) ∧ Below w.heap.size w w' := by
 have hu23 := Try.underlying23
 have hu26 := Try.underlying26
 have hu31 := Try.underlying31
 have HR1_1 := Aside0.mk hr1_1
 have HC1_1 := Aside0.mk hc1_1
 clear hr1_1 hc1_1
 have HO2 := Aside0.mk (show Kd.V k31 31 w w.heap.size (fun k_ => (P2_ k_ ∨ w.heap.size ≤ k_)) (.slice A2 l2.length c2) l2 from Kd.V_mono hs2 (fun k_ hk => .inl hk))
 have HB := Aside0.mk (Below.refl w.heap.size w)
 have H : (if (l2.length : Int) > 300 then ((examboardlaw43_awake.f k).bind fun t330 => (some t330)) else (examboardlaw43_AdjudicateOthers.l0 k l2 a3 ([] : List (S31)) l2 (l2.length : Int) 0 a0_0 a0_1 a1_0 l1_1)) = some r := h
 clear h
 by_cases c5 : (l2.length : Int) > 300
 ·
  rw [if_pos c5] at H
  have c5b0 : decide (300 < (l2.length : Int)) = true := decide_eq_true c5
  have c5b1 : decide (300 < l2.length) = true := decide_eq_true (by omega)
  clear c5
  replace H := Option.bind_eq_some_iff.mp H
  obtain ⟨t330, A60, H⟩ := H
  replace H : (some t330) = some r := H
  have A6 := Aside0.mk A60
  clear A60
  obtain rfl := Option.some.inj H
  go_enter Try.func3, Try.ntmps3
  go_wp2_with (first | ((with_reducible refine gate_dst (N := 4) rfl ?_); refine box_event ?hg (N := 4) ?hd (cs := #[.int .i64 a0_0, .int .i64 a0_1]) (t := 23) ?hr ?_; (case hd => rfl); (case hg => rfl); (case hr => first | (go_simp; done) | (go_simp; rfl)); intro gb328 hg w7 hbox hb; have n0_ := Aside0.mk (Kd.V_below (Kd.V_elderB (by (with_reducible repeat (first | apply Kd.V_alloc | apply Kd.V_drewN | apply Kd.V_drew)); exact HO2.out) gb328 (Nat.le_of_eq hg.symm)) hb); have n1_ := Aside0.mk (below_step (Bw HB.out) hb); have n2_ := Aside0.mk (hbox); have n3_ := Aside0.mk ((by rw [hg]; exact (below_size (Bw HB.out)) : w.heap.size ≤ gb328)); have n4_ := Aside0.mk ((by rw [hg]; exact (below_size (Bw HB.out)) : w.heap.size ≤ gb328)); clear HO2; clear HB; have HO2 := n0_; have HB := n1_; have BK328 := n2_; have GW328 := n3_; have GE328 := n4_; clear n0_ n1_ n2_ n3_ n4_; clear hb hbox hg) | ((with_reducible refine gate_dst (N := 5) rfl ?_); refine box_event ?hg (N := 5) ?hd (cs := #[.int .i64 a1_0, .slice A1_1 l1_1.length c1_1]) (t := 26) ?hr ?_; (case hd => rfl); (case hg => rfl); (case hr => first | (go_simp; done) | (go_simp; rfl)); intro gb329 hg w8 hbox hb; have n0_ := Aside0.mk (Kd.V_below (Kd.V_elderB (by (with_reducible repeat (first | apply Kd.V_alloc | apply Kd.V_drewN | apply Kd.V_drew)); exact HO2.out) gb329 (Nat.le_of_eq hg.symm)) hb); have n1_ := Aside0.mk (blk_below (g := gb328) (o := .cells #[.int .i64 a0_0, .int .i64 a0_1] 23 (0, 0)) (Bk BK328.out) hb); have n2_ := Aside0.mk (below_step (Bw HB.out) hb); have n3_ := Aside0.mk (hbox); have n4_ := Aside0.mk ((by rw [hg]; exact (below_size (Bw HB.out)) : w.heap.size ≤ gb329)); have n5_ := Aside0.mk ((by rw [hg]; exact (below_size (Bw HB.out)) : w.heap.size ≤ gb329)); have n6_ := Aside0.mk ((by rw [hg]; exact Nat.ne_of_lt (blk_lt (g := gb328) (o := .cells #[.int .i64 a0_0, .int .i64 a0_1] 23 (0, 0)) (Bk BK328.out)) : gb328 ≠ gb329)); have n7_ := Aside0.mk ((by rw [hg]; exact Nat.ne_of_gt (blk_lt (g := gb328) (o := .cells #[.int .i64 a0_0, .int .i64 a0_1] 23 (0, 0)) (Bk BK328.out)) : gb329 ≠ gb328)); clear HO2; clear BK328; clear HB; have HO2 := n0_; have BK328 := n1_; have HB := n2_; have BK329 := n3_; have GW329 := n4_; have GE329 := n5_; have NB328_329 := n6_; have NB329_328 := n7_; clear n0_ n1_ n2_ n3_ n4_ n5_ n6_ n7_; clear hb hbox hg) | ((with_reducible refine gate_callee (f := 8) rfl ?_); refine goesL_ (some 25) rfl rfl Try.func8 (by kernel_rfl) rfl #[] rfl (by (try simp only [List.map_toArray, List.map_cons, List.map_nil]); first | done | rfl | (simp only [List.length_drop, List.length_take]; rfl)) ?_; (with_reducible refine (examboardlaw43_awake.calls k  t330 _ A6.out).mono ?_); rintro e w9 ⟨rfl, hb⟩; refine ⟨_, rfl, ?_⟩; have n0_ := Aside0.mk (Kd.V_below (by (with_reducible repeat (first | apply Kd.V_alloc | apply Kd.V_drewN | apply Kd.V_drew)); exact HO2.out) hb); have n1_ := Aside0.mk (blk_below (g := gb328) (o := .cells #[.int .i64 a0_0, .int .i64 a0_1] 23 (0, 0)) (Bk BK328.out) hb); have n2_ := Aside0.mk (blk_below (g := gb329) (o := .cells #[.int .i64 a1_0, .slice A1_1 l1_1.length c1_1] 26 (0, 0)) (Bk BK329.out) hb); have n3_ := Aside0.mk (below_step (Bw HB.out) hb); clear HO2; clear BK328; clear BK329; clear HB; have HO2 := n0_; have BK328 := n1_; have BK329 := n2_; have HB := n3_; clear n0_ n1_ n2_ n3_; (try clear hb); (try clear hb2); (try clear hk); (try clear hi)))
  go_ret
  exact ⟨by first | rfl | (simp [errW_none, errW_some] <;> rfl) | (simp [*, errW_none, errW_some] <;> rfl), Bw HB.out⟩
 ·
  rw [if_neg c5] at H
  have c5b0 : decide (300 < (l2.length : Int)) = false := decide_eq_false c5
  have c5b1 : decide (300 < l2.length) = false := decide_eq_false (by omega)
  clear c5
  have H' := Aside0.mk H
  clear H
  go_enter Try.func3, Try.ntmps3
  go_wp2_with (first | ((with_reducible refine gate_dst (N := 4) rfl ?_); refine box_event ?hg (N := 4) ?hd (cs := #[.int .i64 a0_0, .int .i64 a0_1]) (t := 23) ?hr ?_; (case hd => rfl); (case hg => rfl); (case hr => first | (go_simp; done) | (go_simp; rfl)); intro gb328 hg w10 hbox hb; have n0_ := Aside0.mk (Kd.V_below (Kd.V_elderB (by (with_reducible repeat (first | apply Kd.V_alloc | apply Kd.V_drewN | apply Kd.V_drew)); exact HO2.out) gb328 (Nat.le_of_eq hg.symm)) hb); have n1_ := Aside0.mk (below_step (Bw HB.out) hb); have n2_ := Aside0.mk (hbox); have n3_ := Aside0.mk ((by rw [hg]; exact (below_size (Bw HB.out)) : w.heap.size ≤ gb328)); have n4_ := Aside0.mk ((by rw [hg]; exact (below_size (Bw HB.out)) : w.heap.size ≤ gb328)); clear HO2; clear HB; have HO2 := n0_; have HB := n1_; have BK328 := n2_; have GW328 := n3_; have GE328 := n4_; clear n0_ n1_ n2_ n3_ n4_; clear hb hbox hg) | ((with_reducible refine gate_dst (N := 5) rfl ?_); refine box_event ?hg (N := 5) ?hd (cs := #[.int .i64 a1_0, .slice A1_1 l1_1.length c1_1]) (t := 26) ?hr ?_; (case hd => rfl); (case hg => rfl); (case hr => first | (go_simp; done) | (go_simp; rfl)); intro gb329 hg w11 hbox hb; have n0_ := Aside0.mk (Kd.V_below (Kd.V_elderB (by (with_reducible repeat (first | apply Kd.V_alloc | apply Kd.V_drewN | apply Kd.V_drew)); exact HO2.out) gb329 (Nat.le_of_eq hg.symm)) hb); have n1_ := Aside0.mk (blk_below (g := gb328) (o := .cells #[.int .i64 a0_0, .int .i64 a0_1] 23 (0, 0)) (Bk BK328.out) hb); have n2_ := Aside0.mk (below_step (Bw HB.out) hb); have n3_ := Aside0.mk (hbox); have n4_ := Aside0.mk ((by rw [hg]; exact (below_size (Bw HB.out)) : w.heap.size ≤ gb329)); have n5_ := Aside0.mk ((by rw [hg]; exact (below_size (Bw HB.out)) : w.heap.size ≤ gb329)); have n6_ := Aside0.mk ((by rw [hg]; exact Nat.ne_of_lt (blk_lt (g := gb328) (o := .cells #[.int .i64 a0_0, .int .i64 a0_1] 23 (0, 0)) (Bk BK328.out)) : gb328 ≠ gb329)); have n7_ := Aside0.mk ((by rw [hg]; exact Nat.ne_of_gt (blk_lt (g := gb328) (o := .cells #[.int .i64 a0_0, .int .i64 a0_1] 23 (0, 0)) (Bk BK328.out)) : gb329 ≠ gb328)); clear HO2; clear BK328; clear HB; have HO2 := n0_; have BK328 := n1_; have HB := n2_; have BK329 := n3_; have GW329 := n4_; have GE329 := n5_; have NB328_329 := n6_; have NB329_328 := n7_; clear n0_ n1_ n2_ n3_ n4_ n5_ n6_ n7_; clear hb hbox hg))
  go_loopg [9, 28] k (fun kq v9 v28 w' => ∃ (x9_1 : List (S31)) (x28_1 : Int), v28 = .int .i64 x28_1 ∧ Aside0 (examboardlaw43_AdjudicateOthers.l0 kq l2 a3 x9_1 l2 (l2.length : Int) x28_1 a0_0 a0_1 a1_0 l1_1 = some r) ∧ Aside0 (kq ≤ k) ∧ Aside0 (Kd.V k31 31 w' w.heap.size (fun k_ => (P2_ k_ ∨ w.heap.size ≤ k_) ∧ some k_ ≠ (v9 : Value).ownBlock ∧ k_ ≠ gb328 ∧ k_ ≠ gb329) (.slice A2 l2.length c2) l2) ∧ Aside0 (Kd.N k31 31 w' w.heap.size (fun k_ => (P2_ k_ ∨ w.heap.size ≤ k_) ∧ k_ ≠ gb328 ∧ k_ ≠ gb329) v9 x9_1) ∧ Aside0 (Kd.V k31 31 w' w.heap.size (fun k_ => (P2_ k_ ∨ w.heap.size ≤ k_) ∧ some k_ ≠ (v9 : Value).ownBlock ∧ k_ ≠ gb328 ∧ k_ ≠ gb329) (.slice A2 l2.length c2) l2) ∧ Aside0 (w'.heap[gb328]? = some (.cells #[.int .i64 a0_0, .int .i64 a0_1] 23 (0, 0))) ∧ Aside0 (w'.heap[gb329]? = some (.cells #[.int .i64 a1_0, (.slice A1_1 l1_1.length c1_1)] 26 (0, 0))) ∧ Aside0 (Below w.heap.size w w'))
  case atStart => exact ⟨(([] : List (S31))), (0), (by first | rfl | (simp; done) | (simp [*]; done)), H', ⟨Nat.le_refl _⟩, ⟨by (with_reducible repeat (first | apply Kd.V_alloc | apply Kd.V_drewN | apply Kd.V_drew)); exact Kd.V_mono HO2.out (fun _ hk => ⟨hk.1.1, ⟨(by simp [Value.ownBlock]), ⟨hk.1.2, hk.2⟩⟩⟩)⟩, ⟨by first | exact Kd.S_nil _ _ _ _ _ | exact Kd.N_nil _ _ _ _ _ | exact Kd.V_nil _ _ _ _ _ | exact Kd.Q_nil _ _ _ _ _ | exact Kd.R_nil _ _ _ _ _⟩, ⟨by (with_reducible repeat (first | apply Kd.V_alloc | apply Kd.V_drewN | apply Kd.V_drew)); exact Kd.V_mono HO2.out (fun _ hk => ⟨hk.1.1, ⟨(by simp [Value.ownBlock]), ⟨hk.1.2, hk.2⟩⟩⟩)⟩, ⟨Bk BK328.out⟩, ⟨Bk BK329.out⟩, ⟨Bw HB.out⟩⟩
  case round =>
   clear H'
   (try clear c1); (try clear c2); (try clear p2); (try clear c3); (try clear c5); (try clear c5b0); (try clear c5b1); (try clear c8)
   obtain ⟨x9_1, x28_1, rfl, HA, HK1, HO_2, HO_9, HO_26, BK328, BK329, HB⟩ := hrel
   cases gk with
   | zero => exact absurd HA.out (by simp [examboardlaw43_AdjudicateOthers.l0])
   | succ k1 =>
    have H := HA.out
    clear HA
    simp only [examboardlaw43_AdjudicateOthers.l0] at H
    by_cases c12 : x28_1 < (l2.length : Int)
    ·
     rw [if_pos c12] at H
     have c12b0 : decide (x28_1 < (l2.length : Int)) = true := decide_eq_true c12
     clear c12
     by_cases c13 : 0 ≤ x28_1
     ·
      rw [if_pos c13] at H
      have c13b0 : decide (0 ≤ x28_1) = true := decide_eq_true c13
      clear c13
      by_cases c14 : x28_1 < (l2.length : Int)
      ·
       rw [if_pos c14] at H
       have c14b0 : decide (x28_1 < (l2.length : Int)) = true := decide_eq_true c14
       clear c14
       by_cases c15 : ((rd_T31 l2 x28_1).f1) = a3
       ·
        rw [if_pos c15] at H
        have c15b0 : (((rd_T31 l2 x28_1).f1) == a3) = true := beq_iff_eq.mpr c15
        have c15b1 : (((rd_T31 l2 x28_1).f1) != a3) = false := bne_eq_false_iff_eq.mpr c15
        clear c15
        by_cases c16 : x9_1.length < 3518437208883
        ·
         rw [if_pos c16] at H
         have LMc16 := Aside0.mk c16
         clear c16
         obtain ⟨y333, hy333⟩ : ∃ y_ : List (S31), y_ = (x9_1 ++ [(⟨(rd_T31 l2 x28_1).f0, (rd_T31 l2 x28_1).f1, (rd_T31 l2 x28_1).f2⟩ : S31)]) := ⟨_, rfl⟩
         replace H : (examboardlaw43_AdjudicateOthers.l0 k1 l2 a3 y333 l2 (l2.length : Int) (wrap64 (x28_1 + 1)) a0_0 a0_1 a1_0 l1_1) = some r := by first | (rw [hy333]; with_reducible exact H) | (have H2_ := (Option.bind_some _ _).symm.trans H; rw [hy333]; with_reducible exact H2_) | (have H2_ := (Option.bind_some _ _).symm.trans H; with_reducible exact H2_) | with_reducible exact H | (rw [hy333]; exact H) | exact H
         have Ny333 := Aside0.mk hy333
         clear hy333
         have H' := Aside0.mk H
         clear H
         have p331 : 0 ≤ (x28_1 : Int) := of_decide_eq_true (by first | (with_reducible assumption) | assumption)
         have q331 : x28_1 < (l2.length : Int) := of_decide_eq_true (by first | (with_reducible assumption) | assumption)
         obtain ⟨ad331, A331_2, c331_2, e331, hx331_0, hx331_1, hx331_2, hl331_2, hi331_2⟩ := at_T31 (Kd.V_reads' HO_26.out).2.2 x28_1 p331 q331
         cases e331
         obtain ⟨ce331, hce331, hMe331, hcc331⟩ := Kd.V_get HO_26.out z31 x28_1 p331 (by first | exact q331 | exact of_decide_eq_true (by first | (with_reducible assumption) | assumption) | (have e_ := (Kd.V_reads' HO_26.out).1; omega))
         obtain ⟨ua331_2, uc331_2, rfl, ul331_2, ge331_2⟩ := k31_openF hMe331
         have hv331_2 := hcc331 2 _ rfl
         rw [add_field _ _ 2 (by omega)] at hv331_2
         replace hv331_2 := Option.some.inj (hv331_2.symm.trans hx331_2)
         injection hv331_2 with hva_ hvn_ hvc_
         rw [hva_] at ge331_2
         rw [hvc_] at ul331_2
         have HL331_2 := Aside0.mk (show Kd.V (Kd.int .i64) 3 _ w.heap.size _ _ ((rd_T31 l2 x28_1).f2) from Kd.V_mk ul331_2 ge331_2)
         clear hva_ hvn_ hvc_ ge331_2 ul331_2
         clear hcc331 hce331
         have HR331_2 := Aside0.mk hi331_2
         have HC331_2 := Aside0.mk hl331_2
         clear hi331_2 hl331_2
         replace p331 := eq_true p331
         replace q331 := eq_true q331
         go_wp2_with (first | ((with_reducible refine gate_dst (N := 11) rfl ?_); refine box_event ?hg (N := 11) ?hd (cs := #[.int .i64 0, .int .i64 0, .slice none 0 0]) (t := 31) ?hr ?_; (case hd => rfl); (case hg => rfl); (case hr => first | (go_simp; done) | (go_simp; rfl)); intro gb332 hg w17 hbox hb; have n0_ := Aside0.mk (Kd.V_below (Kd.V_elderB (by (with_reducible repeat (first | apply Kd.V_alloc | apply Kd.V_drewN | apply Kd.V_drew)); exact HO_2.out) gb332 (Nat.le_of_eq hg.symm)) hb); have n1_ := Aside0.mk (Kd.N_below (Kd.N_elderB (by (with_reducible repeat (first | apply Kd.N_alloc | apply Kd.N_drewN | apply Kd.N_drew)); exact HO_9.out) gb332 (Nat.le_of_eq hg.symm)) hb); have n2_ := Aside0.mk (Kd.V_below (Kd.V_elderB (by (with_reducible repeat (first | apply Kd.V_alloc | apply Kd.V_drewN | apply Kd.V_drew)); exact HO_26.out) gb332 (Nat.le_of_eq hg.symm)) hb); have n3_ := Aside0.mk (Kd.V_below (Kd.V_elderB (by (with_reducible repeat (first | apply Kd.V_alloc | apply Kd.V_drewN | apply Kd.V_drew)); exact HL331_2.out) gb332 (Nat.le_of_eq hg.symm)) hb); have n4_ := Aside0.mk (blk_below (g := gb328) (o := .cells #[.int .i64 a0_0, .int .i64 a0_1] 23 (0, 0)) (Bk BK328.out) hb); have n5_ := Aside0.mk (blk_below (g := gb329) (o := .cells #[.int .i64 a1_0, .slice A1_1 l1_1.length c1_1] 26 (0, 0)) (Bk BK329.out) hb); have n6_ := Aside0.mk (Kd.C_below (by repeat (first | (with_reducible exact HR331_2.out) | (with_reducible refine Kd.C_alloc ?_ _) | (with_reducible refine Kd.C_drewN ?_ _) | (with_reducible refine Kd.C_drew ?_) | exact HR331_2.out)) hb); have n7_ := Aside0.mk (below_step (Bw HB.out) hb); have n8_ := Aside0.mk (hbox); have n9_ := Aside0.mk ((by rw [hg]; exact (below_size (Bw HB.out)) : w.heap.size ≤ gb332)); have n10_ := Aside0.mk ((by rw [hg]; exact (below_size (Bw HB.out)) : w.heap.size ≤ gb332)); have n11_ := Aside0.mk ((by rw [hg]; exact Nat.ne_of_lt (blk_lt (g := gb328) (o := .cells #[.int .i64 a0_0, .int .i64 a0_1] 23 (0, 0)) (Bk BK328.out)) : gb328 ≠ gb332)); have n12_ := Aside0.mk ((by rw [hg]; exact Nat.ne_of_gt (blk_lt (g := gb328) (o := .cells #[.int .i64 a0_0, .int .i64 a0_1] 23 (0, 0)) (Bk BK328.out)) : gb332 ≠ gb328)); have n13_ := Aside0.mk ((by rw [hg]; exact Nat.ne_of_lt (blk_lt (g := gb329) (o := .cells #[.int .i64 a1_0, .slice A1_1 l1_1.length c1_1] 26 (0, 0)) (Bk BK329.out)) : gb329 ≠ gb332)); have n14_ := Aside0.mk ((by rw [hg]; exact Nat.ne_of_gt (blk_lt (g := gb329) (o := .cells #[.int .i64 a1_0, .slice A1_1 l1_1.length c1_1] 26 (0, 0)) (Bk BK329.out)) : gb332 ≠ gb329)); clear HO_2; clear HO_9; clear HO_26; clear HL331_2; clear BK328; clear BK329; clear HR331_2; clear HB; have HO_2 := n0_; have HO_9 := n1_; have HO_26 := n2_; have HL331_2 := n3_; have BK328 := n4_; have BK329 := n5_; have HR331_2 := n6_; have HB := n7_; have BK332 := n8_; have GW332 := n9_; have GE332 := n10_; have NB328_332 := n11_; have NB332_328 := n12_; have NB329_332 := n13_; have NB332_329 := n14_; clear n0_ n1_ n2_ n3_ n4_ n5_ n6_ n7_ n8_ n9_ n10_ n11_ n12_ n13_ n14_; clear hb hbox hg; have hnb18 := NB332_328.out; have hnc18 := NB328_332.out; have hnb19 := NB332_329.out; have hnc19 := NB329_332.out; have hcz20_0 : w17.cell? ⟨gb332, 0, none⟩ = some (.int .i64 0) := (blk_cell BK332.out 0).trans rfl; have hcz20_1 : w17.cell? ⟨gb332, 1, none⟩ = some (.int .i64 0) := (blk_cell BK332.out 1).trans rfl; have hcz20_2 : w17.cell? ⟨gb332, 2, none⟩ = some (.slice none 0 0) := (blk_cell BK332.out 2).trans rfl; have hfz20_0 := blk_frozen BK332.out 0; have hfz20_1 := blk_frozen BK332.out 1; have hfz20_2 := blk_frozen BK332.out 2) | ((with_reducible refine gate_store (t := 31) (p := 11) rfl ?_); refine store_event (t := 31) (p := 11) (v := ?vo_w21) (w1 := (((w17.setCell ⟨gb332, 0, none⟩ (.int .i64 ((rd_T31 l2 x28_1).f0))).setCell ⟨gb332, 1, none⟩ (.int .i64 ((rd_T31 l2 x28_1).f1))).setCell ⟨gb332, 2, none⟩ (.slice A331_2 ((rd_T31 l2 x28_1).f2).length c331_2))) ?hg ?ho ?hn ?hr ?_; (case ho => rfl); (case hg => rfl); (case hn => rfl); (case hr => first | (go_simp; done) | (go_simp; rfl)); intro w21 hw; have n0_ : Aside0 (Kd.V k31 31 w21 w.heap.size (fun k_ => (P2_ k_ ∨ w.heap.size ≤ k_) ∧ some k_ ≠ (u9 : Value).ownBlock ∧ k_ ≠ gb328 ∧ k_ ≠ gb329 ∧ k_ ≠ gb332) (.slice (some ad331) l2.length c2) l2) := ⟨(by rw [hw]; exact (by (with_reducible repeat (first | apply Kd.V_alloc | apply Kd.V_drewN | apply Kd.V_drew)); exact Kd.V_mono (Kd.V_far (p := ⟨gb332, 2, none⟩) (Kd.V_far (p := ⟨gb332, 1, none⟩) (Kd.V_far (p := ⟨gb332, 0, none⟩) (Kd.V_mono HO_2.out (fun k_ hk => (⟨hk, hk.2⟩ : _ ∧ k_ ≠ gb332))) (fun _ hk => hk.2) (.int .i64 ((rd_T31 l2 x28_1).f0))) (fun _ hk => hk.2) (.int .i64 ((rd_T31 l2 x28_1).f1))) (fun _ hk => hk.2) (.slice A331_2 ((rd_T31 l2 x28_1).f2).length c331_2)) (fun _ hk => ⟨hk.1.1.1, ⟨hk.1.1.2.1, ⟨hk.1.1.2.2.1, ⟨hk.1.1.2.2.2, hk.1.2⟩⟩⟩⟩)))⟩; have n1_ : Aside0 (Kd.N k31 31 w21 w.heap.size (fun k_ => (P2_ k_ ∨ w.heap.size ≤ k_) ∧ k_ ≠ gb328 ∧ k_ ≠ gb329 ∧ k_ ≠ gb332) u9 x9_1) := ⟨(by rw [hw]; exact (by (with_reducible repeat (first | apply Kd.N_alloc | apply Kd.N_drewN | apply Kd.N_drew)); exact Kd.N_mono (Kd.N_far (p := ⟨gb332, 2, none⟩) (Kd.N_far (p := ⟨gb332, 1, none⟩) (Kd.N_far (p := ⟨gb332, 0, none⟩) (Kd.N_mono HO_9.out (fun k_ hk => (⟨hk, hk.2⟩ : _ ∧ k_ ≠ gb332))) (fun _ hk => hk.2) (.int .i64 ((rd_T31 l2 x28_1).f0))) (fun _ hk => hk.2) (.int .i64 ((rd_T31 l2 x28_1).f1))) (fun _ hk => hk.2) (.slice A331_2 ((rd_T31 l2 x28_1).f2).length c331_2)) (fun _ hk => ⟨hk.1.1.1, ⟨hk.1.1.2.1, ⟨hk.1.1.2.2, hk.1.2⟩⟩⟩)))⟩; have n2_ : Aside0 (Kd.V k31 31 w21 w.heap.size (fun k_ => (P2_ k_ ∨ w.heap.size ≤ k_) ∧ some k_ ≠ (u9 : Value).ownBlock ∧ k_ ≠ gb328 ∧ k_ ≠ gb329 ∧ k_ ≠ gb332) (.slice (some ad331) l2.length c2) l2) := ⟨(by rw [hw]; exact (by (with_reducible repeat (first | apply Kd.V_alloc | apply Kd.V_drewN | apply Kd.V_drew)); exact Kd.V_mono (Kd.V_far (p := ⟨gb332, 2, none⟩) (Kd.V_far (p := ⟨gb332, 1, none⟩) (Kd.V_far (p := ⟨gb332, 0, none⟩) (Kd.V_mono HO_26.out (fun k_ hk => (⟨hk, hk.2⟩ : _ ∧ k_ ≠ gb332))) (fun _ hk => hk.2) (.int .i64 ((rd_T31 l2 x28_1).f0))) (fun _ hk => hk.2) (.int .i64 ((rd_T31 l2 x28_1).f1))) (fun _ hk => hk.2) (.slice A331_2 ((rd_T31 l2 x28_1).f2).length c331_2)) (fun _ hk => ⟨hk.1.1.1, ⟨hk.1.1.2.1, ⟨hk.1.1.2.2.1, ⟨hk.1.1.2.2.2, hk.1.2⟩⟩⟩⟩)))⟩; have n3_ : Aside0 (Kd.V (Kd.int .i64) 3 w21 w.heap.size (fun k_ => (P2_ k_ ∨ w.heap.size ≤ k_) ∧ some k_ ≠ (u9 : Value).ownBlock ∧ k_ ≠ gb328 ∧ k_ ≠ gb329 ∧ k_ ≠ gb332) (.slice A331_2 ((rd_T31 l2 x28_1).f2).length c331_2) ((rd_T31 l2 x28_1).f2)) := ⟨(by rw [hw]; exact (by (with_reducible repeat (first | apply Kd.V_alloc | apply Kd.V_drewN | apply Kd.V_drew)); exact Kd.V_mono (Kd.V_far (p := ⟨gb332, 2, none⟩) (Kd.V_far (p := ⟨gb332, 1, none⟩) (Kd.V_far (p := ⟨gb332, 0, none⟩) (Kd.V_mono HL331_2.out (fun k_ hk => (⟨hk, hk.2⟩ : _ ∧ k_ ≠ gb332))) (fun _ hk => hk.2) (.int .i64 ((rd_T31 l2 x28_1).f0))) (fun _ hk => hk.2) (.int .i64 ((rd_T31 l2 x28_1).f1))) (fun _ hk => hk.2) (.slice A331_2 ((rd_T31 l2 x28_1).f2).length c331_2)) (fun _ hk => ⟨hk.1.1.1, ⟨hk.1.1.2.1, ⟨hk.1.1.2.2.1, ⟨hk.1.1.2.2.2, hk.1.2⟩⟩⟩⟩)))⟩; have n4_ : Aside0 (w21.heap[gb328]? = some (.cells #[.int .i64 a0_0, .int .i64 a0_1] 23 (0, 0))) := ⟨(by rw [hw]; exact (by (with_reducible repeat (first | refine blk_drewN ?_ _ | refine blk_drew ?_ | refine blk_alloc ?_ _)); refine blk_far ?_ NB328_332.out _; (with_reducible repeat (first | refine blk_drewN ?_ _ | refine blk_drew ?_ | refine blk_alloc ?_ _)); refine blk_far ?_ NB328_332.out _; (with_reducible repeat (first | refine blk_drewN ?_ _ | refine blk_drew ?_ | refine blk_alloc ?_ _)); refine blk_far ?_ NB328_332.out _; (with_reducible repeat (first | refine blk_drewN ?_ _ | refine blk_drew ?_ | refine blk_alloc ?_ _)); exact BK328.out))⟩; have n5_ : Aside0 (w21.heap[gb329]? = some (.cells #[.int .i64 a1_0, .slice A1_1 l1_1.length c1_1] 26 (0, 0))) := ⟨(by rw [hw]; exact (by (with_reducible repeat (first | refine blk_drewN ?_ _ | refine blk_drew ?_ | refine blk_alloc ?_ _)); refine blk_far ?_ NB329_332.out _; (with_reducible repeat (first | refine blk_drewN ?_ _ | refine blk_drew ?_ | refine blk_alloc ?_ _)); refine blk_far ?_ NB329_332.out _; (with_reducible repeat (first | refine blk_drewN ?_ _ | refine blk_drew ?_ | refine blk_alloc ?_ _)); refine blk_far ?_ NB329_332.out _; (with_reducible repeat (first | refine blk_drewN ?_ _ | refine blk_drew ?_ | refine blk_alloc ?_ _)); exact BK329.out))⟩; have n6_ : Aside0 (w21.heap[gb332]? = some (.cells #[.int .i64 ((rd_T31 l2 x28_1).f0), .int .i64 ((rd_T31 l2 x28_1).f1), .slice A331_2 ((rd_T31 l2 x28_1).f2).length c331_2] 31 (0, 0))) := ⟨(by rw [hw]; exact (by (with_reducible repeat (first | refine blk_drewN ?_ _ | refine blk_drew ?_ | refine blk_alloc ?_ _)); refine blk_put (cs := #[.int .i64 ((rd_T31 l2 x28_1).f0), .int .i64 ((rd_T31 l2 x28_1).f1), .slice none 0 0]) ?_ 2 _ rfl; (with_reducible repeat (first | refine blk_drewN ?_ _ | refine blk_drew ?_ | refine blk_alloc ?_ _)); refine blk_put (cs := #[.int .i64 ((rd_T31 l2 x28_1).f0), .int .i64 0, .slice none 0 0]) ?_ 1 _ rfl; (with_reducible repeat (first | refine blk_drewN ?_ _ | refine blk_drew ?_ | refine blk_alloc ?_ _)); refine blk_put (cs := #[.int .i64 0, .int .i64 0, .slice none 0 0]) ?_ 0 _ rfl; (with_reducible repeat (first | refine blk_drewN ?_ _ | refine blk_drew ?_ | refine blk_alloc ?_ _)); exact BK332.out))⟩; have n7_ : Aside0 (Below w.heap.size w w21) := ⟨(by rw [hw]; exact (Bw HB.out))⟩; clear hw; clear HO_2; clear HO_9; clear HO_26; clear HL331_2; clear BK328; clear BK329; clear BK332; clear HB; have HO_2 := n0_; have HO_9 := n1_; have HO_26 := n2_; have HL331_2 := n3_; have BK328 := n4_; have BK329 := n5_; have BK332 := n6_; have HB := n7_; clear n0_ n1_ n2_ n3_ n4_ n5_ n6_ n7_; have hcz22_0 : w21.cell? ⟨gb332, 0, none⟩ = some (.int .i64 ((rd_T31 l2 x28_1).f0)) := (blk_cell BK332.out 0).trans rfl; have hcz22_1 : w21.cell? ⟨gb332, 1, none⟩ = some (.int .i64 ((rd_T31 l2 x28_1).f1)) := (blk_cell BK332.out 1).trans rfl; have hcz22_2 : w21.cell? ⟨gb332, 2, none⟩ = some (.slice A331_2 ((rd_T31 l2 x28_1).f2).length c331_2) := (blk_cell BK332.out 2).trans rfl; have hfz22_0 := blk_frozen BK332.out 0; have hfz22_1 := blk_frozen BK332.out 1; have hfz22_2 := blk_frozen BK332.out 2) | ((with_reducible refine gate_builtin (b := .append) (xs := #[.tmp 36, .tmp 38]) rfl ?_); at_builtin; refine Kd.N_append k31 (w0 := w) w.heap.size rfl (.tmp 36) (.tmp 38) 27 31 (.agg #[(.int .i64 0), (.int .i64 0), (.slice none 0 0)]) 40 rfl Try.underlying27 info31 rfl (by decide) (by omega) u9 x9_1 (⟨(rd_T31 l2 x28_1).f0, (rd_T31 l2 x28_1).f1, (rd_T31 l2 x28_1).f2⟩ : S31) [.int .i64 ((rd_T31 l2 x28_1).f0), .int .i64 ((rd_T31 l2 x28_1).f1), .slice A331_2 ((rd_T31 l2 x28_1).f2).length c331_2] (fun k_ => (P2_ k_ ∨ w.heap.size ≤ k_) ∧ k_ ≠ gb328 ∧ k_ ≠ gb329 ∧ k_ ≠ gb332) (fun k_ => ((fun k_ => (P2_ k_ ∨ w.heap.size ≤ k_) ∧ k_ ≠ gb328 ∧ k_ ≠ gb329 ∧ k_ ≠ gb332)) k_ ∧ some k_ ≠ (u9 : Value).ownBlock) rfl rfl ?aP (fun _ hk => hk) ?aF ?aO ?aB ?aS ?aL ?_; (case aP => exact (k31_mkF _ _ (⟨(rd_T31 l2 x28_1).f0, (rd_T31 l2 x28_1).f1, (rd_T31 l2 x28_1).f2⟩ : S31) (Kd.V_reads' (Kd.V_mono (ok' := (fun k_ => ((fun k_ => (P2_ k_ ∨ w.heap.size ≤ k_) ∧ k_ ≠ gb328 ∧ k_ ≠ gb329 ∧ k_ ≠ gb332)) k_ ∧ some k_ ≠ (u9 : Value).ownBlock)) (HL331_2.out) (fun k_ hk => ⟨⟨hk.1, ⟨hk.2.2.1, ⟨hk.2.2.2.1, hk.2.2.2.2⟩⟩⟩, hk.2.1⟩))).2.1 (Kd.V_F (Kd.V_mono (ok' := (fun k_ => ((fun k_ => (P2_ k_ ∨ w.heap.size ≤ k_) ∧ k_ ≠ gb328 ∧ k_ ≠ gb329 ∧ k_ ≠ gb332)) k_ ∧ some k_ ≠ (u9 : Value).ownBlock)) (HL331_2.out) (fun k_ hk => ⟨⟨hk.1, ⟨hk.2.2.1, ⟨hk.2.2.2.1, hk.2.2.2.2⟩⟩⟩, hk.2.1⟩))))); (case aB => exact (Bw HB.out)); (case aF => exact (fun k_ hk => ⟨(.inr (Nat.le_trans (below_size (Bw HB.out)) hk)), Kd.freshB (g := gb328) (o := .cells #[.int .i64 a0_0, .int .i64 a0_1] 23 (0, 0)) (Bk BK328.out) k_ hk, Kd.freshB (g := gb329) (o := .cells #[.int .i64 a1_0, .slice A1_1 l1_1.length c1_1] 26 (0, 0)) (Bk BK329.out) k_ hk, Kd.freshB (g := gb332) (o := .cells #[.int .i64 ((rd_T31 l2 x28_1).f0), .int .i64 ((rd_T31 l2 x28_1).f1), .slice A331_2 ((rd_T31 l2 x28_1).f2).length c331_2] 31 (0, 0)) (Bk BK332.out) k_ hk⟩)); (case aO => exact (by (with_reducible repeat (first | apply Kd.N_alloc | apply Kd.N_drewN | apply Kd.N_drew)); exact HO_9.out)); (case aS => exact (below_size (Bw HB.out))); (case aL => have := LMc16.out; omega); intro v334 w23 ho hb hg hat; rw [← Ny333.out] at ho; have n0_ := Aside0.mk (Kd.V_afterv (ok := (fun k_ => (P2_ k_ ∨ w.heap.size ≤ k_) ∧ k_ ≠ gb328 ∧ k_ ≠ gb329 ∧ k_ ≠ gb332)) (by (with_reducible repeat (first | apply Kd.V_alloc | apply Kd.V_drewN | apply Kd.V_drew)); exact Kd.V_mono HO_2.out (fun _ hk => ⟨⟨hk.1, ⟨hk.2.2.1, ⟨hk.2.2.2.1, hk.2.2.2.2⟩⟩⟩, hk.2.1⟩)) hg hat); have n1_ := Aside0.mk (Kd.V_afterv (ok := (fun k_ => (P2_ k_ ∨ w.heap.size ≤ k_) ∧ k_ ≠ gb328 ∧ k_ ≠ gb329 ∧ k_ ≠ gb332)) (by (with_reducible repeat (first | apply Kd.V_alloc | apply Kd.V_drewN | apply Kd.V_drew)); exact Kd.V_mono HO_26.out (fun _ hk => ⟨⟨hk.1, ⟨hk.2.2.1, ⟨hk.2.2.2.1, hk.2.2.2.2⟩⟩⟩, hk.2.1⟩)) hg hat); have n2_ := Aside0.mk (blk_grown (g := gb328) (o := .cells #[.int .i64 a0_0, .int .i64 a0_1] 23 (0, 0)) (Bk BK328.out) hg (Kd.N_ne HO_9.out BK328.out (by decide))); have n3_ := Aside0.mk (blk_grown (g := gb329) (o := .cells #[.int .i64 a1_0, .slice A1_1 l1_1.length c1_1] 26 (0, 0)) (Bk BK329.out) hg (Kd.N_ne HO_9.out BK329.out (by decide))); have n4_ := Aside0.mk (Kd.V_afterv (ok := (fun k_ => (P2_ k_ ∨ w.heap.size ≤ k_) ∧ k_ ≠ gb328 ∧ k_ ≠ gb329 ∧ k_ ≠ gb332)) (by (with_reducible repeat (first | apply Kd.V_alloc | apply Kd.V_drewN | apply Kd.V_drew)); exact Kd.V_mono HL331_2.out (fun _ hk => ⟨⟨hk.1, ⟨hk.2.2.1, ⟨hk.2.2.2.1, hk.2.2.2.2⟩⟩⟩, hk.2.1⟩)) hg hat); have n5_ := Aside0.mk (blk_grown (g := gb332) (o := .cells #[.int .i64 ((rd_T31 l2 x28_1).f0), .int .i64 ((rd_T31 l2 x28_1).f1), .slice A331_2 ((rd_T31 l2 x28_1).f2).length c331_2] 31 (0, 0)) (Bk BK332.out) hg (Kd.N_away HO_9.out (fun _ hk => hk.2.2.2))); have n6_ := Aside0.mk (hb); have n7_ := Aside0.mk (ho); clear HO_2; clear HO_26; clear BK328; clear BK329; clear HL331_2; clear BK332; clear HB; clear HO_9; have HO_2 := n0_; have HO_26 := n1_; have BK328 := n2_; have BK329 := n3_; have HL331_2 := n4_; have BK332 := n5_; have HB := n6_; have HO335 := n7_; clear n0_ n1_ n2_ n3_ n4_ n5_ n6_ n7_; clear ho hb hg hat))
         go_roundg k1
         case measure => have := HK1.out; omega
         case rel => exact ⟨(y333), (wrap64 (x28_1 + 1)), (by first | rfl | (simp; done) | (simp [*]; done)), H', ⟨by have := HK1.out; omega⟩, ⟨by (with_reducible repeat (first | apply Kd.V_alloc | apply Kd.V_drewN | apply Kd.V_drew)); exact Kd.V_mono HO_2.out (fun _ hk => ⟨hk.1.1, ⟨hk.2, ⟨hk.1.2.1, hk.1.2.2.1⟩⟩⟩)⟩, ⟨by (with_reducible repeat (first | apply Kd.N_alloc | apply Kd.N_drewN | apply Kd.N_drew)); exact Kd.N_mono HO335.out (fun _ hk => ⟨hk.1, ⟨hk.2.1, hk.2.2.1⟩⟩)⟩, ⟨by (with_reducible repeat (first | apply Kd.V_alloc | apply Kd.V_drewN | apply Kd.V_drew)); exact Kd.V_mono HO_26.out (fun _ hk => ⟨hk.1.1, ⟨hk.2, ⟨hk.1.2.1, hk.1.2.2.1⟩⟩⟩)⟩, ⟨Bk BK328.out⟩, ⟨Bk BK329.out⟩, ⟨Bw HB.out⟩⟩
        ·
         rw [if_neg c16] at H
         exact absurd H (by simp)
       ·
        rw [if_neg c15] at H
        have c15b0 : (((rd_T31 l2 x28_1).f1) == a3) = false := beq_eq_false_iff_ne.mpr c15
        have c15b1 : (((rd_T31 l2 x28_1).f1) != a3) = true := bne_iff_ne.mpr c15
        have H' := Aside0.mk H
        clear H
        have p331 : 0 ≤ (x28_1 : Int) := of_decide_eq_true (by first | (with_reducible assumption) | assumption)
        have q331 : x28_1 < (l2.length : Int) := of_decide_eq_true (by first | (with_reducible assumption) | assumption)
        obtain ⟨ad331, A331_2, c331_2, e331, hx331_0, hx331_1, hx331_2, hl331_2, hi331_2⟩ := at_T31 (Kd.V_reads' HO_26.out).2.2 x28_1 p331 q331
        cases e331
        obtain ⟨ce331, hce331, hMe331, hcc331⟩ := Kd.V_get HO_26.out z31 x28_1 p331 (by first | exact q331 | exact of_decide_eq_true (by first | (with_reducible assumption) | assumption) | (have e_ := (Kd.V_reads' HO_26.out).1; omega))
        obtain ⟨ua331_2, uc331_2, rfl, ul331_2, ge331_2⟩ := k31_openF hMe331
        have hv331_2 := hcc331 2 _ rfl
        rw [add_field _ _ 2 (by omega)] at hv331_2
        replace hv331_2 := Option.some.inj (hv331_2.symm.trans hx331_2)
        injection hv331_2 with hva_ hvn_ hvc_
        rw [hva_] at ge331_2
        rw [hvc_] at ul331_2
        have HL331_2 := Aside0.mk (show Kd.V (Kd.int .i64) 3 _ w.heap.size _ _ ((rd_T31 l2 x28_1).f2) from Kd.V_mk ul331_2 ge331_2)
        clear hva_ hvn_ hvc_ ge331_2 ul331_2
        clear hcc331 hce331
        have HR331_2 := Aside0.mk hi331_2
        have HC331_2 := Aside0.mk hl331_2
        clear hi331_2 hl331_2
        replace p331 := eq_true p331
        replace q331 := eq_true q331
        go_wp2_with (first | ((with_reducible refine gate_dst (N := 11) rfl ?_); refine box_event ?hg (N := 11) ?hd (cs := #[.int .i64 0, .int .i64 0, .slice none 0 0]) (t := 31) ?hr ?_; (case hd => rfl); (case hg => rfl); (case hr => first | (go_simp; done) | (go_simp; rfl)); intro gb332 hg w24 hbox hb; have n0_ := Aside0.mk (Kd.V_below (Kd.V_elderB (by (with_reducible repeat (first | apply Kd.V_alloc | apply Kd.V_drewN | apply Kd.V_drew)); exact HO_2.out) gb332 (Nat.le_of_eq hg.symm)) hb); have n1_ := Aside0.mk (Kd.N_below (Kd.N_elderB (by (with_reducible repeat (first | apply Kd.N_alloc | apply Kd.N_drewN | apply Kd.N_drew)); exact HO_9.out) gb332 (Nat.le_of_eq hg.symm)) hb); have n2_ := Aside0.mk (Kd.V_below (Kd.V_elderB (by (with_reducible repeat (first | apply Kd.V_alloc | apply Kd.V_drewN | apply Kd.V_drew)); exact HO_26.out) gb332 (Nat.le_of_eq hg.symm)) hb); have n3_ := Aside0.mk (Kd.V_below (Kd.V_elderB (by (with_reducible repeat (first | apply Kd.V_alloc | apply Kd.V_drewN | apply Kd.V_drew)); exact HL331_2.out) gb332 (Nat.le_of_eq hg.symm)) hb); have n4_ := Aside0.mk (blk_below (g := gb328) (o := .cells #[.int .i64 a0_0, .int .i64 a0_1] 23 (0, 0)) (Bk BK328.out) hb); have n5_ := Aside0.mk (blk_below (g := gb329) (o := .cells #[.int .i64 a1_0, .slice A1_1 l1_1.length c1_1] 26 (0, 0)) (Bk BK329.out) hb); have n6_ := Aside0.mk (Kd.C_below (by repeat (first | (with_reducible exact HR331_2.out) | (with_reducible refine Kd.C_alloc ?_ _) | (with_reducible refine Kd.C_drewN ?_ _) | (with_reducible refine Kd.C_drew ?_) | exact HR331_2.out)) hb); have n7_ := Aside0.mk (below_step (Bw HB.out) hb); have n8_ := Aside0.mk (hbox); have n9_ := Aside0.mk ((by rw [hg]; exact (below_size (Bw HB.out)) : w.heap.size ≤ gb332)); have n10_ := Aside0.mk ((by rw [hg]; exact (below_size (Bw HB.out)) : w.heap.size ≤ gb332)); have n11_ := Aside0.mk ((by rw [hg]; exact Nat.ne_of_lt (blk_lt (g := gb328) (o := .cells #[.int .i64 a0_0, .int .i64 a0_1] 23 (0, 0)) (Bk BK328.out)) : gb328 ≠ gb332)); have n12_ := Aside0.mk ((by rw [hg]; exact Nat.ne_of_gt (blk_lt (g := gb328) (o := .cells #[.int .i64 a0_0, .int .i64 a0_1] 23 (0, 0)) (Bk BK328.out)) : gb332 ≠ gb328)); have n13_ := Aside0.mk ((by rw [hg]; exact Nat.ne_of_lt (blk_lt (g := gb329) (o := .cells #[.int .i64 a1_0, .slice A1_1 l1_1.length c1_1] 26 (0, 0)) (Bk BK329.out)) : gb329 ≠ gb332)); have n14_ := Aside0.mk ((by rw [hg]; exact Nat.ne_of_gt (blk_lt (g := gb329) (o := .cells #[.int .i64 a1_0, .slice A1_1 l1_1.length c1_1] 26 (0, 0)) (Bk BK329.out)) : gb332 ≠ gb329)); clear HO_2; clear HO_9; clear HO_26; clear HL331_2; clear BK328; clear BK329; clear HR331_2; clear HB; have HO_2 := n0_; have HO_9 := n1_; have HO_26 := n2_; have HL331_2 := n3_; have BK328 := n4_; have BK329 := n5_; have HR331_2 := n6_; have HB := n7_; have BK332 := n8_; have GW332 := n9_; have GE332 := n10_; have NB328_332 := n11_; have NB332_328 := n12_; have NB329_332 := n13_; have NB332_329 := n14_; clear n0_ n1_ n2_ n3_ n4_ n5_ n6_ n7_ n8_ n9_ n10_ n11_ n12_ n13_ n14_; clear hb hbox hg; have hnb25 := NB332_328.out; have hnc25 := NB328_332.out; have hnb26 := NB332_329.out; have hnc26 := NB329_332.out; have hcz27_0 : w24.cell? ⟨gb332, 0, none⟩ = some (.int .i64 0) := (blk_cell BK332.out 0).trans rfl; have hcz27_1 : w24.cell? ⟨gb332, 1, none⟩ = some (.int .i64 0) := (blk_cell BK332.out 1).trans rfl; have hcz27_2 : w24.cell? ⟨gb332, 2, none⟩ = some (.slice none 0 0) := (blk_cell BK332.out 2).trans rfl; have hfz27_0 := blk_frozen BK332.out 0; have hfz27_1 := blk_frozen BK332.out 1; have hfz27_2 := blk_frozen BK332.out 2))
        go_roundg k1
        case measure => have := HK1.out; omega
        case rel => exact ⟨(x9_1), (wrap64 (x28_1 + 1)), (by first | rfl | (simp; done) | (simp [*]; done)), H', ⟨by have := HK1.out; omega⟩, ⟨by (with_reducible repeat (first | apply Kd.V_alloc | apply Kd.V_drewN | apply Kd.V_drew)); exact Kd.V_mono (Kd.V_far (p := ⟨gb332, 2, none⟩) (Kd.V_far (p := ⟨gb332, 1, none⟩) (Kd.V_far (p := ⟨gb332, 0, none⟩) (Kd.V_mono HO_2.out (fun k_ hk => (⟨hk, hk.2⟩ : _ ∧ k_ ≠ gb332))) (fun _ hk => hk.2) (.int .i64 ((rd_T31 l2 x28_1).f0))) (fun _ hk => hk.2) (.int .i64 ((rd_T31 l2 x28_1).f1))) (fun _ hk => hk.2) (.slice A331_2 ((rd_T31 l2 x28_1).f2).length c331_2)) (fun _ hk => ⟨hk.1.1.1, ⟨hk.1.1.2.1, ⟨hk.1.1.2.2.1, hk.1.1.2.2.2⟩⟩⟩)⟩, ⟨by (with_reducible repeat (first | apply Kd.N_alloc | apply Kd.N_drewN | apply Kd.N_drew)); exact Kd.N_mono (Kd.N_far (p := ⟨gb332, 2, none⟩) (Kd.N_far (p := ⟨gb332, 1, none⟩) (Kd.N_far (p := ⟨gb332, 0, none⟩) (Kd.N_mono HO_9.out (fun k_ hk => (⟨hk, hk.2⟩ : _ ∧ k_ ≠ gb332))) (fun _ hk => hk.2) (.int .i64 ((rd_T31 l2 x28_1).f0))) (fun _ hk => hk.2) (.int .i64 ((rd_T31 l2 x28_1).f1))) (fun _ hk => hk.2) (.slice A331_2 ((rd_T31 l2 x28_1).f2).length c331_2)) (fun _ hk => ⟨hk.1.1.1, ⟨hk.1.1.2.1, hk.1.1.2.2⟩⟩)⟩, ⟨by (with_reducible repeat (first | apply Kd.V_alloc | apply Kd.V_drewN | apply Kd.V_drew)); exact Kd.V_mono (Kd.V_far (p := ⟨gb332, 2, none⟩) (Kd.V_far (p := ⟨gb332, 1, none⟩) (Kd.V_far (p := ⟨gb332, 0, none⟩) (Kd.V_mono HO_26.out (fun k_ hk => (⟨hk, hk.2⟩ : _ ∧ k_ ≠ gb332))) (fun _ hk => hk.2) (.int .i64 ((rd_T31 l2 x28_1).f0))) (fun _ hk => hk.2) (.int .i64 ((rd_T31 l2 x28_1).f1))) (fun _ hk => hk.2) (.slice A331_2 ((rd_T31 l2 x28_1).f2).length c331_2)) (fun _ hk => ⟨hk.1.1.1, ⟨hk.1.1.2.1, ⟨hk.1.1.2.2.1, hk.1.1.2.2.2⟩⟩⟩)⟩, ⟨by (with_reducible repeat (first | refine blk_drewN ?_ _ | refine blk_drew ?_ | refine blk_alloc ?_ _)); refine blk_far ?_ NB328_332.out _; (with_reducible repeat (first | refine blk_drewN ?_ _ | refine blk_drew ?_ | refine blk_alloc ?_ _)); refine blk_far ?_ NB328_332.out _; (with_reducible repeat (first | refine blk_drewN ?_ _ | refine blk_drew ?_ | refine blk_alloc ?_ _)); refine blk_far ?_ NB328_332.out _; (with_reducible repeat (first | refine blk_drewN ?_ _ | refine blk_drew ?_ | refine blk_alloc ?_ _)); exact BK328.out⟩, ⟨by (with_reducible repeat (first | refine blk_drewN ?_ _ | refine blk_drew ?_ | refine blk_alloc ?_ _)); refine blk_far ?_ NB329_332.out _; (with_reducible repeat (first | refine blk_drewN ?_ _ | refine blk_drew ?_ | refine blk_alloc ?_ _)); refine blk_far ?_ NB329_332.out _; (with_reducible repeat (first | refine blk_drewN ?_ _ | refine blk_drew ?_ | refine blk_alloc ?_ _)); refine blk_far ?_ NB329_332.out _; (with_reducible repeat (first | refine blk_drewN ?_ _ | refine blk_drew ?_ | refine blk_alloc ?_ _)); exact BK329.out⟩, ⟨Bw HB.out⟩⟩
      ·
       rw [if_neg c14] at H
       exact absurd H (by simp)
     ·
      rw [if_neg c13] at H
      exact absurd H (by simp)
    ·
     rw [if_neg c12] at H
     have c12b0 : decide (x28_1 < (l2.length : Int)) = false := decide_eq_false c12
     clear c12
     replace H := Option.bind_eq_some_iff.mp H
     obtain ⟨⟨t336, t337⟩, A280, H⟩ := H
     replace H : ((adjudicate_Pick.f k1 x9_1 a3).bind fun bt340 => ((adjudicate_Essay.f k1 a0_0 a0_1 a1_0 l1_1 l2 a3).bind fun bt344 => ((adjudicate_Essay.f k1 a0_0 a0_1 a1_0 l1_1 x9_1 a3).bind fun bt346 => ((examboardlaw43_equal.f k1 t336 bt340.1).bind fun t348 => (if t348 = true then (if t337 = bt340.2 then (if bt344.1 = bt346.1 then (examboardlaw43_AdjudicateOthers.j1 k1 x9_1 t336 t337 bt344.1 bt344.2 (bt344.2 != bt346.2) a0_0 a0_1 a1_0 l1_1) else (examboardlaw43_AdjudicateOthers.j1 k1 x9_1 t336 t337 bt344.1 bt344.2 true a0_0 a0_1 a1_0 l1_1)) else (examboardlaw43_AdjudicateOthers.j1 k1 x9_1 t336 t337 bt344.1 bt344.2 true a0_0 a0_1 a1_0 l1_1)) else (examboardlaw43_AdjudicateOthers.j1 k1 x9_1 t336 t337 bt344.1 bt344.2 true a0_0 a0_1 a1_0 l1_1)))))) = some r := H
     have A28 := Aside0.mk A280
     clear A280
     replace H := Option.bind_eq_some_iff.mp H
     obtain ⟨⟨t340, t341⟩, A290, H⟩ := H
     replace H : ((adjudicate_Essay.f k1 a0_0 a0_1 a1_0 l1_1 l2 a3).bind fun bt344 => ((adjudicate_Essay.f k1 a0_0 a0_1 a1_0 l1_1 x9_1 a3).bind fun bt346 => ((examboardlaw43_equal.f k1 t336 t340).bind fun t348 => (if t348 = true then (if t337 = t341 then (if bt344.1 = bt346.1 then (examboardlaw43_AdjudicateOthers.j1 k1 x9_1 t336 t337 bt344.1 bt344.2 (bt344.2 != bt346.2) a0_0 a0_1 a1_0 l1_1) else (examboardlaw43_AdjudicateOthers.j1 k1 x9_1 t336 t337 bt344.1 bt344.2 true a0_0 a0_1 a1_0 l1_1)) else (examboardlaw43_AdjudicateOthers.j1 k1 x9_1 t336 t337 bt344.1 bt344.2 true a0_0 a0_1 a1_0 l1_1)) else (examboardlaw43_AdjudicateOthers.j1 k1 x9_1 t336 t337 bt344.1 bt344.2 true a0_0 a0_1 a1_0 l1_1))))) = some r := H
     have A29 := Aside0.mk A290
     clear A290
     replace H := Option.bind_eq_some_iff.mp H
     obtain ⟨⟨t344, t345⟩, A300, H⟩ := H
     replace H : ((adjudicate_Essay.f k1 a0_0 a0_1 a1_0 l1_1 x9_1 a3).bind fun bt346 => ((examboardlaw43_equal.f k1 t336 t340).bind fun t348 => (if t348 = true then (if t337 = t341 then (if t344 = bt346.1 then (examboardlaw43_AdjudicateOthers.j1 k1 x9_1 t336 t337 t344 t345 (t345 != bt346.2) a0_0 a0_1 a1_0 l1_1) else (examboardlaw43_AdjudicateOthers.j1 k1 x9_1 t336 t337 t344 t345 true a0_0 a0_1 a1_0 l1_1)) else (examboardlaw43_AdjudicateOthers.j1 k1 x9_1 t336 t337 t344 t345 true a0_0 a0_1 a1_0 l1_1)) else (examboardlaw43_AdjudicateOthers.j1 k1 x9_1 t336 t337 t344 t345 true a0_0 a0_1 a1_0 l1_1)))) = some r := H
     have A30 := Aside0.mk A300
     clear A300
     replace H := Option.bind_eq_some_iff.mp H
     obtain ⟨⟨t346, t347⟩, A310, H⟩ := H
     replace H : ((examboardlaw43_equal.f k1 t336 t340).bind fun t348 => (if t348 = true then (if t337 = t341 then (if t344 = t346 then (examboardlaw43_AdjudicateOthers.j1 k1 x9_1 t336 t337 t344 t345 (t345 != t347) a0_0 a0_1 a1_0 l1_1) else (examboardlaw43_AdjudicateOthers.j1 k1 x9_1 t336 t337 t344 t345 true a0_0 a0_1 a1_0 l1_1)) else (examboardlaw43_AdjudicateOthers.j1 k1 x9_1 t336 t337 t344 t345 true a0_0 a0_1 a1_0 l1_1)) else (examboardlaw43_AdjudicateOthers.j1 k1 x9_1 t336 t337 t344 t345 true a0_0 a0_1 a1_0 l1_1))) = some r := H
     have A31 := Aside0.mk A310
     clear A310
     have HC32 := Aside0.mk H
     clear H
     go_upto_region 14 with (first | ((with_reducible refine gate_callee (f := 9) rfl ?_); refine goesL_ (some 44) rfl rfl Try.func9 (by kernel_rfl) rfl #[.slice A2 l2.length c2, .int .i64 a3] rfl (by (try simp only [List.map_toArray, List.map_cons, List.map_nil]); first | done | rfl | (simp only [List.length_drop, List.length_take]; rfl)) ?_; (with_reducible refine (adjudicate_Pick.calls k1 _ _ l2 a3 t336 t337 _ ?side1 ?side2 A28.out).mono ?_); (case side1 => repeat (first | exact (Kd.V_reads' HO_2.out).2.2 | (with_reducible refine Kd.C_alloc ?_ _) | (with_reducible refine Kd.C_drewN ?_ _) | (with_reducible refine Kd.C_drew ?_))); (case side2 => exact (Kd.V_reads' HO_2.out).2.1); rintro e w33 ⟨v338, rfl, ho0, hb⟩; refine ⟨_, rfl, ?_⟩; have n0_ := Aside0.mk (Kd.V_elder' (by (with_reducible repeat (first | apply Kd.V_alloc | apply Kd.V_drewN | apply Kd.V_drew)); exact HO_2.out) (by first | exact Kd.N_base ho0 | exact Kd.S_base ho0) hb); have n1_ := Aside0.mk (Kd.N_elder' (by (with_reducible repeat (first | apply Kd.N_alloc | apply Kd.N_drewN | apply Kd.N_drew)); exact HO_9.out) (by first | exact Kd.N_base ho0 | exact Kd.S_base ho0) hb); have n2_ := Aside0.mk (Kd.V_elder' (by (with_reducible repeat (first | apply Kd.V_alloc | apply Kd.V_drewN | apply Kd.V_drew)); exact HO_26.out) (by first | exact Kd.N_base ho0 | exact Kd.S_base ho0) hb); have n3_ := Aside0.mk (Kd.N_lower (Kd.N_mono (ok' := fun k_ => (P2_ k_ ∨ w.heap.size ≤ k_) ∧ some k_ ≠ (u9 : Value).ownBlock ∧ k_ ≠ gb328 ∧ k_ ≠ gb329) (Kd.S_N (Kd.S_bound ho0)) (fun k_ hk_ => ⟨(.inr (Nat.le_trans (below_size (Bw HB.out)) hk_.2.1)), (Kd.fresh' (Kd.N_lt (by (with_reducible repeat (first | apply Kd.N_alloc | apply Kd.N_drewN | apply Kd.N_drew)); exact HO_9.out)) k_ hk_.2.1), (Kd.freshB (g := gb328) (o := .cells #[.int .i64 a0_0, .int .i64 a0_1] 23 (0, 0)) (Bk BK328.out) k_ hk_.2.1), (Kd.freshB (g := gb329) (o := .cells #[.int .i64 a1_0, .slice A1_1 l1_1.length c1_1] 26 (0, 0)) (Bk BK329.out) k_ hk_.2.1)⟩)) (below_size (Bw HB.out))); have n4_ := Aside0.mk (blk_below (g := gb328) (o := .cells #[.int .i64 a0_0, .int .i64 a0_1] 23 (0, 0)) (Bk BK328.out) hb); have n5_ := Aside0.mk (blk_below (g := gb329) (o := .cells #[.int .i64 a1_0, .slice A1_1 l1_1.length c1_1] 26 (0, 0)) (Bk BK329.out) hb); have n6_ := Aside0.mk (below_step (Bw HB.out) hb); clear HO_2; clear HO_9; clear HO_26; clear BK328; clear BK329; clear HB; have HO_2 := n0_; have HO_9 := n1_; have HO_26 := n2_; have HO339 := n3_; have BK328 := n4_; have BK329 := n5_; have HB := n6_; clear n0_ n1_ n2_ n3_ n4_ n5_ n6_; (try clear hb); (try clear hb2); (try clear hk); (try clear hi); (try clear ho0); obtain ⟨Ao34, co34, eo34⟩ := Kd.N_slice HO_9.out; subst eo34) | ((with_reducible refine gate_callee (f := 9) rfl ?_); refine goesL_ (some 50) rfl rfl Try.func9 (by kernel_rfl) rfl #[.slice Ao34 x9_1.length co34, .int .i64 a3] rfl (by (try simp only [List.map_toArray, List.map_cons, List.map_nil]); first | done | rfl | (simp only [List.length_drop, List.length_take]; rfl)) ?_; (with_reducible refine (adjudicate_Pick.calls k1 _ _ x9_1 a3 t340 t341 _ ?side1 ?side2 A29.out).mono ?_); (case side1 => repeat (first | exact (Kd.N_reads' HO_9.out).2.2 | (with_reducible refine Kd.C_alloc ?_ _) | (with_reducible refine Kd.C_drewN ?_ _) | (with_reducible refine Kd.C_drew ?_))); (case side2 => exact (Kd.N_reads' HO_9.out).2.1); rintro e w35 ⟨v342, rfl, ho0, hb⟩; refine ⟨_, rfl, ?_⟩; have n0_ := Aside0.mk (Kd.V_elder' (by (with_reducible repeat (first | apply Kd.V_alloc | apply Kd.V_drewN | apply Kd.V_drew)); exact HO_2.out) (by first | exact Kd.N_base ho0 | exact Kd.S_base ho0) hb); have n1_ := Aside0.mk (Kd.N_elder' (by (with_reducible repeat (first | apply Kd.N_alloc | apply Kd.N_drewN | apply Kd.N_drew)); exact HO_9.out) (by first | exact Kd.N_base ho0 | exact Kd.S_base ho0) hb); have n2_ := Aside0.mk (Kd.V_elder' (by (with_reducible repeat (first | apply Kd.V_alloc | apply Kd.V_drewN | apply Kd.V_drew)); exact HO_26.out) (by first | exact Kd.N_base ho0 | exact Kd.S_base ho0) hb); have n3_ := Aside0.mk (Kd.N_elder' (by (with_reducible repeat (first | apply Kd.N_alloc | apply Kd.N_drewN | apply Kd.N_drew)); exact HO339.out) (by first | exact Kd.N_base ho0 | exact Kd.S_base ho0) hb); have n4_ := Aside0.mk (Kd.N_lower (Kd.N_mono (ok' := fun k_ => (P2_ k_ ∨ w.heap.size ≤ k_) ∧ some k_ ≠ (.slice Ao34 x9_1.length co34 : Value).ownBlock ∧ some k_ ≠ (v338 : Value).ownBlock ∧ k_ ≠ gb328 ∧ k_ ≠ gb329) (Kd.S_N (Kd.S_bound ho0)) (fun k_ hk_ => ⟨(.inr (Nat.le_trans (below_size (Bw HB.out)) hk_.2.1)), (Kd.fresh' (Kd.N_lt (by (with_reducible repeat (first | apply Kd.N_alloc | apply Kd.N_drewN | apply Kd.N_drew)); exact HO_9.out)) k_ hk_.2.1), (Kd.fresh' (Kd.N_lt (by (with_reducible repeat (first | apply Kd.N_alloc | apply Kd.N_drewN | apply Kd.N_drew)); exact HO339.out)) k_ hk_.2.1), (Kd.freshB (g := gb328) (o := .cells #[.int .i64 a0_0, .int .i64 a0_1] 23 (0, 0)) (Bk BK328.out) k_ hk_.2.1), (Kd.freshB (g := gb329) (o := .cells #[.int .i64 a1_0, .slice A1_1 l1_1.length c1_1] 26 (0, 0)) (Bk BK329.out) k_ hk_.2.1)⟩)) (below_size (Bw HB.out))); have n5_ := Aside0.mk (blk_below (g := gb328) (o := .cells #[.int .i64 a0_0, .int .i64 a0_1] 23 (0, 0)) (Bk BK328.out) hb); have n6_ := Aside0.mk (blk_below (g := gb329) (o := .cells #[.int .i64 a1_0, .slice A1_1 l1_1.length c1_1] 26 (0, 0)) (Bk BK329.out) hb); have n7_ := Aside0.mk (below_step (Bw HB.out) hb); clear HO_2; clear HO_9; clear HO_26; clear HO339; clear BK328; clear BK329; clear HB; have HO_2 := n0_; have HO_9 := n1_; have HO_26 := n2_; have HO339 := n3_; have HO343 := n4_; have BK328 := n5_; have BK329 := n6_; have HB := n7_; clear n0_ n1_ n2_ n3_ n4_ n5_ n6_ n7_; (try clear hb); (try clear hb2); (try clear hk); (try clear hi); (try clear ho0); have hnb36 := NB328_329.out; have hnc36 := NB329_328.out; have hcz37_0 : w35.cell? ⟨gb328, 0, none⟩ = some (.int .i64 a0_0) := (blk_cell BK328.out 0).trans rfl; have hcz37_1 : w35.cell? ⟨gb328, 1, none⟩ = some (.int .i64 a0_1) := (blk_cell BK328.out 1).trans rfl; have hfz37_0 := blk_frozen BK328.out 0; have hfz37_1 := blk_frozen BK328.out 1; have hcz38_0 : w35.cell? ⟨gb329, 0, none⟩ = some (.int .i64 a1_0) := (blk_cell BK329.out 0).trans rfl; have hcz38_1 : w35.cell? ⟨gb329, 1, none⟩ = some (.slice A1_1 l1_1.length c1_1) := (blk_cell BK329.out 1).trans rfl; have hfz38_0 := blk_frozen BK329.out 0; have hfz38_1 := blk_frozen BK329.out 1) | ((with_reducible refine gate_callee (f := 10) rfl ?_); refine goesL_ (some 58) rfl rfl Try.func10 (by kernel_rfl) rfl #[.agg #[.int .i64 a0_0, .int .i64 a0_1], .agg #[.int .i64 a1_0, .slice A1_1 l1_1.length c1_1], .slice A2 l2.length c2, .int .i64 a3] rfl (by (try simp only [List.map_toArray, List.map_cons, List.map_nil]); first | done | rfl | (simp only [List.length_drop, List.length_take]; rfl)) ?_; (with_reducible refine (adjudicate_Essay.calls k1 a0_0 a0_1 a1_0 _ _ l1_1 _ _ l2 a3 t344 t345 _ ?side1 ?side2 ?side3 ?side4 A30.out).mono ?_); (case side1 => repeat (first | exact (Kd.C_below HR1_1.out HB.out) | (with_reducible refine Kd.C_alloc ?_ _) | (with_reducible refine Kd.C_drewN ?_ _) | (with_reducible refine Kd.C_drew ?_))); (case side2 => exact HC1_1.out); (case side3 => repeat (first | exact (Kd.V_reads' HO_2.out).2.2 | (with_reducible refine Kd.C_alloc ?_ _) | (with_reducible refine Kd.C_drewN ?_ _) | (with_reducible refine Kd.C_drew ?_))); (case side4 => exact (Kd.V_reads' HO_2.out).2.1); rintro e w39 ⟨rfl, hb⟩; refine ⟨_, rfl, ?_⟩; have n0_ := Aside0.mk (Kd.V_below (by (with_reducible repeat (first | apply Kd.V_alloc | apply Kd.V_drewN | apply Kd.V_drew)); exact HO_2.out) hb); have n1_ := Aside0.mk (Kd.N_below (by (with_reducible repeat (first | apply Kd.N_alloc | apply Kd.N_drewN | apply Kd.N_drew)); exact HO_9.out) hb); have n2_ := Aside0.mk (Kd.V_below (by (with_reducible repeat (first | apply Kd.V_alloc | apply Kd.V_drewN | apply Kd.V_drew)); exact HO_26.out) hb); have n3_ := Aside0.mk (Kd.N_below (by (with_reducible repeat (first | apply Kd.N_alloc | apply Kd.N_drewN | apply Kd.N_drew)); exact HO339.out) hb); have n4_ := Aside0.mk (Kd.N_below (by (with_reducible repeat (first | apply Kd.N_alloc | apply Kd.N_drewN | apply Kd.N_drew)); exact HO343.out) hb); have n5_ := Aside0.mk (blk_below (g := gb328) (o := .cells #[.int .i64 a0_0, .int .i64 a0_1] 23 (0, 0)) (Bk BK328.out) hb); have n6_ := Aside0.mk (blk_below (g := gb329) (o := .cells #[.int .i64 a1_0, .slice A1_1 l1_1.length c1_1] 26 (0, 0)) (Bk BK329.out) hb); have n7_ := Aside0.mk (below_step (Bw HB.out) hb); clear HO_2; clear HO_9; clear HO_26; clear HO339; clear HO343; clear BK328; clear BK329; clear HB; have HO_2 := n0_; have HO_9 := n1_; have HO_26 := n2_; have HO339 := n3_; have HO343 := n4_; have BK328 := n5_; have BK329 := n6_; have HB := n7_; clear n0_ n1_ n2_ n3_ n4_ n5_ n6_ n7_; (try clear hb); (try clear hb2); (try clear hk); (try clear hi); have hcz40_0 : w39.cell? ⟨gb328, 0, none⟩ = some (.int .i64 a0_0) := (blk_cell BK328.out 0).trans rfl; have hcz40_1 : w39.cell? ⟨gb328, 1, none⟩ = some (.int .i64 a0_1) := (blk_cell BK328.out 1).trans rfl; have hfz40_0 := blk_frozen BK328.out 0; have hfz40_1 := blk_frozen BK328.out 1; have hcz41_0 : w39.cell? ⟨gb329, 0, none⟩ = some (.int .i64 a1_0) := (blk_cell BK329.out 0).trans rfl; have hcz41_1 : w39.cell? ⟨gb329, 1, none⟩ = some (.slice A1_1 l1_1.length c1_1) := (blk_cell BK329.out 1).trans rfl; have hfz41_0 := blk_frozen BK329.out 0; have hfz41_1 := blk_frozen BK329.out 1) | ((with_reducible refine gate_callee (f := 10) rfl ?_); refine goesL_ (some 66) rfl rfl Try.func10 (by kernel_rfl) rfl #[.agg #[.int .i64 a0_0, .int .i64 a0_1], .agg #[.int .i64 a1_0, .slice A1_1 l1_1.length c1_1], .slice Ao34 x9_1.length co34, .int .i64 a3] rfl (by (try simp only [List.map_toArray, List.map_cons, List.map_nil]); first | done | rfl | (simp only [List.length_drop, List.length_take]; rfl)) ?_; (with_reducible refine (adjudicate_Essay.calls k1 a0_0 a0_1 a1_0 _ _ l1_1 _ _ x9_1 a3 t346 t347 _ ?side1 ?side2 ?side3 ?side4 A31.out).mono ?_); (case side1 => repeat (first | exact (Kd.C_below HR1_1.out HB.out) | (with_reducible refine Kd.C_alloc ?_ _) | (with_reducible refine Kd.C_drewN ?_ _) | (with_reducible refine Kd.C_drew ?_))); (case side2 => exact HC1_1.out); (case side3 => repeat (first | exact (Kd.N_reads' HO_9.out).2.2 | (with_reducible refine Kd.C_alloc ?_ _) | (with_reducible refine Kd.C_drewN ?_ _) | (with_reducible refine Kd.C_drew ?_))); (case side4 => exact (Kd.N_reads' HO_9.out).2.1); rintro e w42 ⟨rfl, hb⟩; refine ⟨_, rfl, ?_⟩; have n0_ := Aside0.mk (Kd.V_below (by (with_reducible repeat (first | apply Kd.V_alloc | apply Kd.V_drewN | apply Kd.V_drew)); exact HO_2.out) hb); have n1_ := Aside0.mk (Kd.N_below (by (with_reducible repeat (first | apply Kd.N_alloc | apply Kd.N_drewN | apply Kd.N_drew)); exact HO_9.out) hb); have n2_ := Aside0.mk (Kd.V_below (by (with_reducible repeat (first | apply Kd.V_alloc | apply Kd.V_drewN | apply Kd.V_drew)); exact HO_26.out) hb); have n3_ := Aside0.mk (Kd.N_below (by (with_reducible repeat (first | apply Kd.N_alloc | apply Kd.N_drewN | apply Kd.N_drew)); exact HO339.out) hb); have n4_ := Aside0.mk (Kd.N_below (by (with_reducible repeat (first | apply Kd.N_alloc | apply Kd.N_drewN | apply Kd.N_drew)); exact HO343.out) hb); have n5_ := Aside0.mk (blk_below (g := gb328) (o := .cells #[.int .i64 a0_0, .int .i64 a0_1] 23 (0, 0)) (Bk BK328.out) hb); have n6_ := Aside0.mk (blk_below (g := gb329) (o := .cells #[.int .i64 a1_0, .slice A1_1 l1_1.length c1_1] 26 (0, 0)) (Bk BK329.out) hb); have n7_ := Aside0.mk (below_step (Bw HB.out) hb); clear HO_2; clear HO_9; clear HO_26; clear HO339; clear HO343; clear BK328; clear BK329; clear HB; have HO_2 := n0_; have HO_9 := n1_; have HO_26 := n2_; have HO339 := n3_; have HO343 := n4_; have BK328 := n5_; have BK329 := n6_; have HB := n7_; clear n0_ n1_ n2_ n3_ n4_ n5_ n6_ n7_; (try clear hb); (try clear hb2); (try clear hk); (try clear hi)))
     (try simp only [Act.put, List.setIfInBounds_toArray, List.set_cons_zero, List.set_cons_succ])
     go_cut [87] (fun v87 wc => ∃ (kq : Nat) (x87_31 : Bool), v87 = .bool x87_31 ∧ Aside0 (examboardlaw43_AdjudicateOthers.j1 kq x9_1 t336 t337 t344 t345 x87_31 a0_0 a0_1 a1_0 l1_1 = some r) ∧ Aside0 (kq ≤ k1) ∧ Aside0 (Kd.N k31 31 wc w.heap.size (fun k_ => (P2_ k_ ∨ w.heap.size ≤ k_) ∧ some k_ ≠ (v338 : Value).ownBlock ∧ k_ ≠ gb328 ∧ k_ ≠ gb329) (.slice Ao34 x9_1.length co34) x9_1) ∧ Aside0 (Kd.N (Kd.slice 3 (Kd.int .i64)) 29 wc w.heap.size (fun k_ => (P2_ k_ ∨ w.heap.size ≤ k_) ∧ some k_ ≠ ((.slice Ao34 x9_1.length co34) : Value).ownBlock ∧ k_ ≠ gb328 ∧ k_ ≠ gb329) v338 t336) ∧ Aside0 (wc.heap[gb328]? = some (.cells #[.int .i64 a0_0, .int .i64 a0_1] 23 (0, 0))) ∧ Aside0 (wc.heap[gb329]? = some (.cells #[.int .i64 a1_0, (.slice A1_1 l1_1.length c1_1)] 26 (0, 0))) ∧ Aside0 (Below w.heap.size w wc))
     case first =>
      have H := HC32.out
      clear HC32
      replace H := Option.bind_eq_some_iff.mp H
      obtain ⟨t348, A430, H⟩ := H
      replace H : (if t348 = true then (if t337 = t341 then (if t344 = t346 then (examboardlaw43_AdjudicateOthers.j1 k1 x9_1 t336 t337 t344 t345 (t345 != t347) a0_0 a0_1 a1_0 l1_1) else (examboardlaw43_AdjudicateOthers.j1 k1 x9_1 t336 t337 t344 t345 true a0_0 a0_1 a1_0 l1_1)) else (examboardlaw43_AdjudicateOthers.j1 k1 x9_1 t336 t337 t344 t345 true a0_0 a0_1 a1_0 l1_1)) else (examboardlaw43_AdjudicateOthers.j1 k1 x9_1 t336 t337 t344 t345 true a0_0 a0_1 a1_0 l1_1)) = some r := H
      have A43 := Aside0.mk A430
      clear A430
      by_cases c44 : t348 = true
      ·
       subst c44
       have H1 : (if t337 = t341 then (if t344 = t346 then (examboardlaw43_AdjudicateOthers.j1 k1 x9_1 t336 t337 t344 t345 (t345 != t347) a0_0 a0_1 a1_0 l1_1) else (examboardlaw43_AdjudicateOthers.j1 k1 x9_1 t336 t337 t344 t345 true a0_0 a0_1 a1_0 l1_1)) else (examboardlaw43_AdjudicateOthers.j1 k1 x9_1 t336 t337 t344 t345 true a0_0 a0_1 a1_0 l1_1)) = some r := by rw [if_pos rfl] at H; exact H
       clear H
       have H := H1
       clear H1
       by_cases c45 : t337 = t341
       ·
        rw [if_pos c45] at H
        have c45b0 : (t337 == t341) = true := beq_iff_eq.mpr c45
        have c45b1 : (t337 != t341) = false := bne_eq_false_iff_eq.mpr c45
        clear c45
        (first | rw [c45b0] | (simp only [i64_w, i32_w]; rw [c45b0]) | skip)
        by_cases c46 : t344 = t346
        ·
         rw [if_pos c46] at H
         have c46b0 : (t344 == t346) = true := beq_iff_eq.mpr c46
         have c46b1 : (t344 != t346) = false := bne_eq_false_iff_eq.mpr c46
         clear c46
         have H' := Aside0.mk H
         clear H
         obtain ⟨Ao47, co47, eo47⟩ := Kd.N_slice HO339.out
         subst eo47
         obtain ⟨Ao48, co48, eo48⟩ := Kd.N_slice HO343.out
         subst eo48
         go_wp2_with (first | ((with_reducible refine gate_callee (f := 11) rfl ?_); refine goesL_ (some 71) rfl rfl Try.func11 (by kernel_rfl) rfl #[.slice Ao47 t336.length co47, .slice Ao48 t340.length co48] rfl (by (try simp only [List.map_toArray, List.map_cons, List.map_nil]); first | done | rfl | (simp only [List.length_drop, List.length_take]; rfl)) ?_; (with_reducible refine (examboardlaw43_equal.calls k1 _ _ t336 _ _ t340 true _ ?side1 ?side2 ?side3 ?side4 A43.out).mono ?_); (case side1 => repeat (first | exact (Kd.N_reads' HO339.out).2.2 | (with_reducible refine Kd.C_alloc ?_ _) | (with_reducible refine Kd.C_drewN ?_ _) | (with_reducible refine Kd.C_drew ?_))); (case side2 => exact (Kd.N_reads' HO339.out).2.1); (case side3 => repeat (first | exact (Kd.N_reads' HO343.out).2.2 | (with_reducible refine Kd.C_alloc ?_ _) | (with_reducible refine Kd.C_drewN ?_ _) | (with_reducible refine Kd.C_drew ?_))); (case side4 => exact (Kd.N_reads' HO343.out).2.1); rintro e w' ⟨rfl, ⟨nd, rfl⟩⟩; refine ⟨_, rfl, ?_⟩))
         go_meet
         case rel => exact ⟨_, ((t345 != t347)), (by first | rfl | (simp; done) | (simp [*]; done)), H', ⟨by have := HK1.out; first | omega | exact Nat.le_refl _⟩, ⟨by (with_reducible repeat (first | apply Kd.N_alloc | apply Kd.N_drewN | apply Kd.N_drew)); exact Kd.N_mono HO_9.out (fun _ hk => ⟨hk.1.1.1, ⟨hk.1.2, ⟨hk.1.1.2.1, hk.1.1.2.2⟩⟩⟩)⟩, ⟨by (with_reducible repeat (first | apply Kd.N_alloc | apply Kd.N_drewN | apply Kd.N_drew)); exact Kd.N_mono HO339.out (fun _ hk => ⟨hk.1.1, ⟨hk.1.2.1, ⟨hk.1.2.2.1, hk.1.2.2.2⟩⟩⟩)⟩, ⟨Bk BK328.out⟩, ⟨Bk BK329.out⟩, ⟨Bw HB.out⟩⟩
        ·
         rw [if_neg c46] at H
         have c46b0 : (t344 == t346) = false := beq_eq_false_iff_ne.mpr c46
         have c46b1 : (t344 != t346) = true := bne_iff_ne.mpr c46
         have H' := Aside0.mk H
         clear H
         obtain ⟨Ao49, co49, eo49⟩ := Kd.N_slice HO339.out
         subst eo49
         obtain ⟨Ao50, co50, eo50⟩ := Kd.N_slice HO343.out
         subst eo50
         go_wp2_with (first | ((with_reducible refine gate_callee (f := 11) rfl ?_); refine goesL_ (some 71) rfl rfl Try.func11 (by kernel_rfl) rfl #[.slice Ao49 t336.length co49, .slice Ao50 t340.length co50] rfl (by (try simp only [List.map_toArray, List.map_cons, List.map_nil]); first | done | rfl | (simp only [List.length_drop, List.length_take]; rfl)) ?_; (with_reducible refine (examboardlaw43_equal.calls k1 _ _ t336 _ _ t340 true _ ?side1 ?side2 ?side3 ?side4 A43.out).mono ?_); (case side1 => repeat (first | exact (Kd.N_reads' HO339.out).2.2 | (with_reducible refine Kd.C_alloc ?_ _) | (with_reducible refine Kd.C_drewN ?_ _) | (with_reducible refine Kd.C_drew ?_))); (case side2 => exact (Kd.N_reads' HO339.out).2.1); (case side3 => repeat (first | exact (Kd.N_reads' HO343.out).2.2 | (with_reducible refine Kd.C_alloc ?_ _) | (with_reducible refine Kd.C_drewN ?_ _) | (with_reducible refine Kd.C_drew ?_))); (case side4 => exact (Kd.N_reads' HO343.out).2.1); rintro e w' ⟨rfl, ⟨nd, rfl⟩⟩; refine ⟨_, rfl, ?_⟩))
         go_meet
         case rel => exact ⟨_, (true), (by first | rfl | (simp; done) | (simp [*]; done)), H', ⟨by have := HK1.out; first | omega | exact Nat.le_refl _⟩, ⟨by (with_reducible repeat (first | apply Kd.N_alloc | apply Kd.N_drewN | apply Kd.N_drew)); exact Kd.N_mono HO_9.out (fun _ hk => ⟨hk.1.1.1, ⟨hk.1.2, ⟨hk.1.1.2.1, hk.1.1.2.2⟩⟩⟩)⟩, ⟨by (with_reducible repeat (first | apply Kd.N_alloc | apply Kd.N_drewN | apply Kd.N_drew)); exact Kd.N_mono HO339.out (fun _ hk => ⟨hk.1.1, ⟨hk.1.2.1, ⟨hk.1.2.2.1, hk.1.2.2.2⟩⟩⟩)⟩, ⟨Bk BK328.out⟩, ⟨Bk BK329.out⟩, ⟨Bw HB.out⟩⟩
       ·
        rw [if_neg c45] at H
        have c45b0 : (t337 == t341) = false := beq_eq_false_iff_ne.mpr c45
        have c45b1 : (t337 != t341) = true := bne_iff_ne.mpr c45
        (first | rw [c45b0] | (simp only [i64_w, i32_w]; rw [c45b0]) | skip)
        have H' := Aside0.mk H
        clear H
        obtain ⟨Ao51, co51, eo51⟩ := Kd.N_slice HO339.out
        subst eo51
        obtain ⟨Ao52, co52, eo52⟩ := Kd.N_slice HO343.out
        subst eo52
        go_wp2_with (first | ((with_reducible refine gate_callee (f := 11) rfl ?_); refine goesL_ (some 71) rfl rfl Try.func11 (by kernel_rfl) rfl #[.slice Ao51 t336.length co51, .slice Ao52 t340.length co52] rfl (by (try simp only [List.map_toArray, List.map_cons, List.map_nil]); first | done | rfl | (simp only [List.length_drop, List.length_take]; rfl)) ?_; (with_reducible refine (examboardlaw43_equal.calls k1 _ _ t336 _ _ t340 true _ ?side1 ?side2 ?side3 ?side4 A43.out).mono ?_); (case side1 => repeat (first | exact (Kd.N_reads' HO339.out).2.2 | (with_reducible refine Kd.C_alloc ?_ _) | (with_reducible refine Kd.C_drewN ?_ _) | (with_reducible refine Kd.C_drew ?_))); (case side2 => exact (Kd.N_reads' HO339.out).2.1); (case side3 => repeat (first | exact (Kd.N_reads' HO343.out).2.2 | (with_reducible refine Kd.C_alloc ?_ _) | (with_reducible refine Kd.C_drewN ?_ _) | (with_reducible refine Kd.C_drew ?_))); (case side4 => exact (Kd.N_reads' HO343.out).2.1); rintro e w' ⟨rfl, ⟨nd, rfl⟩⟩; refine ⟨_, rfl, ?_⟩))
        go_meet
        case rel => exact ⟨_, (true), (by first | rfl | (simp; done) | (simp [*]; done)), H', ⟨by have := HK1.out; first | omega | exact Nat.le_refl _⟩, ⟨by (with_reducible repeat (first | apply Kd.N_alloc | apply Kd.N_drewN | apply Kd.N_drew)); exact Kd.N_mono HO_9.out (fun _ hk => ⟨hk.1.1.1, ⟨hk.1.2, ⟨hk.1.1.2.1, hk.1.1.2.2⟩⟩⟩)⟩, ⟨by (with_reducible repeat (first | apply Kd.N_alloc | apply Kd.N_drewN | apply Kd.N_drew)); exact Kd.N_mono HO339.out (fun _ hk => ⟨hk.1.1, ⟨hk.1.2.1, ⟨hk.1.2.2.1, hk.1.2.2.2⟩⟩⟩)⟩, ⟨Bk BK328.out⟩, ⟨Bk BK329.out⟩, ⟨Bw HB.out⟩⟩
      ·
       replace c44 := Bool.eq_false_iff.mpr c44
       subst c44
       have H1 : (examboardlaw43_AdjudicateOthers.j1 k1 x9_1 t336 t337 t344 t345 true a0_0 a0_1 a1_0 l1_1) = some r := by rw [if_neg (show ¬ (false = true) by decide)] at H; exact H
       clear H
       have H := H1
       clear H1
       have H' := Aside0.mk H
       clear H
       obtain ⟨Ao53, co53, eo53⟩ := Kd.N_slice HO339.out
       subst eo53
       obtain ⟨Ao54, co54, eo54⟩ := Kd.N_slice HO343.out
       subst eo54
       go_wp2_with (first | ((with_reducible refine gate_callee (f := 11) rfl ?_); refine goesL_ (some 71) rfl rfl Try.func11 (by kernel_rfl) rfl #[.slice Ao53 t336.length co53, .slice Ao54 t340.length co54] rfl (by (try simp only [List.map_toArray, List.map_cons, List.map_nil]); first | done | rfl | (simp only [List.length_drop, List.length_take]; rfl)) ?_; (with_reducible refine (examboardlaw43_equal.calls k1 _ _ t336 _ _ t340 false _ ?side1 ?side2 ?side3 ?side4 A43.out).mono ?_); (case side1 => repeat (first | exact (Kd.N_reads' HO339.out).2.2 | (with_reducible refine Kd.C_alloc ?_ _) | (with_reducible refine Kd.C_drewN ?_ _) | (with_reducible refine Kd.C_drew ?_))); (case side2 => exact (Kd.N_reads' HO339.out).2.1); (case side3 => repeat (first | exact (Kd.N_reads' HO343.out).2.2 | (with_reducible refine Kd.C_alloc ?_ _) | (with_reducible refine Kd.C_drewN ?_ _) | (with_reducible refine Kd.C_drew ?_))); (case side4 => exact (Kd.N_reads' HO343.out).2.1); rintro e w' ⟨rfl, ⟨nd, rfl⟩⟩; refine ⟨_, rfl, ?_⟩))
       go_meet
       case rel => exact ⟨_, (true), (by first | rfl | (simp; done) | (simp [*]; done)), H', ⟨by have := HK1.out; first | omega | exact Nat.le_refl _⟩, ⟨by (with_reducible repeat (first | apply Kd.N_alloc | apply Kd.N_drewN | apply Kd.N_drew)); exact Kd.N_mono HO_9.out (fun _ hk => ⟨hk.1.1.1, ⟨hk.1.2, ⟨hk.1.1.2.1, hk.1.1.2.2⟩⟩⟩)⟩, ⟨by (with_reducible repeat (first | apply Kd.N_alloc | apply Kd.N_drewN | apply Kd.N_drew)); exact Kd.N_mono HO339.out (fun _ hk => ⟨hk.1.1, ⟨hk.1.2.1, ⟨hk.1.2.2.1, hk.1.2.2.2⟩⟩⟩)⟩, ⟨Bk BK328.out⟩, ⟨Bk BK329.out⟩, ⟨Bw HB.out⟩⟩
     case rest =>
      clear HC32
      (try clear c1); (try clear c2); (try clear p2); (try clear c3); (try clear p3); (try clear q3); (try clear hx3); (try clear c4); (try clear c5); (try clear c5b0); (try clear c5b1); (try clear p6); (try clear c8); (try clear c9); (try clear c10); (try clear c11); (try clear c12); (try clear c12b0); (try clear c13); (try clear c13b0); (try clear c14); (try clear c14b0); (try clear c15); (try clear c15b0); (try clear c15b1); (try clear c16); (try clear c18); (try clear c19); (try clear c25); (try clear c26); (try clear c33); (try clear p33); (try clear q33); (try clear hx33); (try clear c36); (try clear c44); (try clear c45); (try clear c45b0); (try clear c45b1); (try clear c46); (try clear c46b0); (try clear c46b1); (try clear hcz20_0); (try clear hcz20_1); (try clear hcz20_2); (try clear hcz22_0); (try clear hcz22_1); (try clear hcz22_2); (try clear hcz27_0); (try clear hcz27_1); (try clear hcz27_2); (try clear hcz37_0); (try clear hcz37_1); (try clear hcz38_0); (try clear hcz38_1); (try clear hcz40_0); (try clear hcz40_1); (try clear hcz41_0); (try clear hcz41_1); (try clear hfz20_0); (try clear hfz20_1); (try clear hfz20_2); (try clear hfz22_0); (try clear hfz22_1); (try clear hfz22_2); (try clear hfz27_0); (try clear hfz27_1); (try clear hfz27_2); (try clear hfz37_0); (try clear hfz37_1); (try clear hfz38_0); (try clear hfz38_1); (try clear hfz40_0); (try clear hfz40_1); (try clear hfz41_0); (try clear hfz41_1); (try clear hx331_0); (try clear hx331_1); (try clear hx331_2); (try clear p2); (try clear p331); (try clear q331)
      obtain ⟨kq, x87_31, rfl, HA, HJ31, HO_9, HO_12, BK328, BK329, HB⟩ := hcut
      cases kq with
      | zero => exact absurd HA.out (by simp [examboardlaw43_AdjudicateOthers.j1])
      | succ kj31 =>
       have H := HA.out
       clear HA
       simp only [examboardlaw43_AdjudicateOthers.j1] at H
       by_cases c55 : x87_31 = true
       ·
        subst c55
        have H1 : (some false) = some r := by rw [if_pos rfl] at H; exact H
        clear H
        have H := H1
        clear H1
        obtain rfl := Option.some.inj H
        go_wp2
        go_ret
        exact ⟨by first | rfl | (simp [errW_none, errW_some] <;> rfl) | (simp [*, errW_none, errW_some] <;> rfl), Bw HB.out⟩
       ·
        replace c55 := Bool.eq_false_iff.mpr c55
        subst c55
        have H1 : (if t337 = 0 then ((adjudicate_Score.f kj31 a0_0 a0_1 a1_0 l1_1 t336).bind fun bt349 => (if (t336.length : Int) = (x9_1.length : Int) then (if t344 = bt349.1 then (if t345 = bt349.2 then ((examboardlaw43_awake.f kj31).bind fun t351 => (some t351)) else (some false)) else (some false)) else (some false))) else (if (t336.length : Int) = 0 then (if t337 = 10 then (if t345 = t337 then ((examboardlaw43_awake.f kj31).bind fun t352 => (some t352)) else (some false)) else (some false)) else (some false))) = some r := by rw [if_neg (show ¬ (false = true) by decide)] at H; exact H
        clear H
        have H := H1
        clear H1
        by_cases c56 : t337 = 0
        ·
         rw [if_pos c56] at H
         have c56b0 : (t337 == 0) = true := beq_iff_eq.mpr c56
         have c56b1 : (t337 != 0) = false := bne_eq_false_iff_eq.mpr c56
         clear c56
         replace H := Option.bind_eq_some_iff.mp H
         obtain ⟨⟨t349, t350⟩, A570, H⟩ := H
         replace H : (if (t336.length : Int) = (x9_1.length : Int) then (if t344 = t349 then (if t345 = t350 then ((examboardlaw43_awake.f kj31).bind fun t351 => (some t351)) else (some false)) else (some false)) else (some false)) = some r := H
         have A57 := Aside0.mk A570
         clear A570
         by_cases c58 : (t336.length : Int) = (x9_1.length : Int)
         ·
          rw [if_pos c58] at H
          have c58b0 : ((t336.length : Int) == (x9_1.length : Int)) = true := beq_iff_eq.mpr c58
          have c58b1 : ((t336.length : Int) != (x9_1.length : Int)) = false := bne_eq_false_iff_eq.mpr c58
          have c58b2 : (t336.length == x9_1.length) = true := by first | simpa using c58 | (simp at c58 ⊢; omega)
          clear c58
          by_cases c59 : t344 = t349
          ·
           rw [if_pos c59] at H
           have c59b0 : (t344 == t349) = true := beq_iff_eq.mpr c59
           have c59b1 : (t344 != t349) = false := bne_eq_false_iff_eq.mpr c59
           clear c59
           by_cases c60 : t345 = t350
           ·
            rw [if_pos c60] at H
            have c60b0 : (t345 == t350) = true := beq_iff_eq.mpr c60
            have c60b1 : (t345 != t350) = false := bne_eq_false_iff_eq.mpr c60
            clear c60
            replace H := Option.bind_eq_some_iff.mp H
            obtain ⟨t351, A610, H⟩ := H
            replace H : (some t351) = some r := H
            have A61 := Aside0.mk A610
            clear A610
            obtain rfl := Option.some.inj H
            have hnb62 := NB328_329.out
            have hnc62 := NB329_328.out
            have hcz63_0 : wc.cell? ⟨gb328, 0, none⟩ = some (.int .i64 a0_0) := (blk_cell BK328.out 0).trans rfl
            have hcz63_1 : wc.cell? ⟨gb328, 1, none⟩ = some (.int .i64 a0_1) := (blk_cell BK328.out 1).trans rfl
            have hfz63_0 := blk_frozen BK328.out 0
            have hfz63_1 := blk_frozen BK328.out 1
            have hcz64_0 : wc.cell? ⟨gb329, 0, none⟩ = some (.int .i64 a1_0) := (blk_cell BK329.out 0).trans rfl
            have hcz64_1 : wc.cell? ⟨gb329, 1, none⟩ = some (.slice A1_1 l1_1.length c1_1) := (blk_cell BK329.out 1).trans rfl
            have hfz64_0 := blk_frozen BK329.out 0
            have hfz64_1 := blk_frozen BK329.out 1
            obtain ⟨Ao65, co65, eo65⟩ := Kd.N_slice HO_12.out
            subst eo65
            go_wp2_with (first | ((with_reducible refine gate_callee (f := 12) rfl ?_); refine goesL_ (some 109) rfl rfl Try.func12 (by kernel_rfl) rfl #[.agg #[.int .i64 a0_0, .int .i64 a0_1], .agg #[.int .i64 a1_0, .slice A1_1 l1_1.length c1_1], .slice Ao65 t336.length co65] rfl (by (try simp only [List.map_toArray, List.map_cons, List.map_nil]); first | done | rfl | (simp only [List.length_drop, List.length_take]; rfl)) ?_; (with_reducible refine (adjudicate_Score.calls kj31 a0_0 a0_1 a1_0 _ _ l1_1 _ _ t336 t349 t350 _ ?side1 ?side2 ?side3 ?side4 A57.out).mono ?_); (case side1 => repeat (first | exact (Kd.C_below HR1_1.out HB.out) | (with_reducible refine Kd.C_alloc ?_ _) | (with_reducible refine Kd.C_drewN ?_ _) | (with_reducible refine Kd.C_drew ?_))); (case side2 => exact HC1_1.out); (case side3 => repeat (first | exact (Kd.N_reads' HO_12.out).2.2 | (with_reducible refine Kd.C_alloc ?_ _) | (with_reducible refine Kd.C_drewN ?_ _) | (with_reducible refine Kd.C_drew ?_))); (case side4 => exact (Kd.N_reads' HO_12.out).2.1); rintro e w66 ⟨rfl, hb⟩; refine ⟨_, rfl, ?_⟩; have n0_ := Aside0.mk (Kd.N_below (by (with_reducible repeat (first | apply Kd.N_alloc | apply Kd.N_drewN | apply Kd.N_drew)); exact HO_9.out) hb); have n1_ := Aside0.mk (Kd.N_below (by (with_reducible repeat (first | apply Kd.N_alloc | apply Kd.N_drewN | apply Kd.N_drew)); exact HO_12.out) hb); have n2_ := Aside0.mk (blk_below (g := gb328) (o := .cells #[.int .i64 a0_0, .int .i64 a0_1] 23 (0, 0)) (Bk BK328.out) hb); have n3_ := Aside0.mk (blk_below (g := gb329) (o := .cells #[.int .i64 a1_0, .slice A1_1 l1_1.length c1_1] 26 (0, 0)) (Bk BK329.out) hb); have n4_ := Aside0.mk (below_step (Bw HB.out) hb); clear HO_9; clear HO_12; clear BK328; clear BK329; clear HB; have HO_9 := n0_; have HO_12 := n1_; have BK328 := n2_; have BK329 := n3_; have HB := n4_; clear n0_ n1_ n2_ n3_ n4_; (try clear hb); (try clear hb2); (try clear hk); (try clear hi)) | (go_at_call 8; (with_reducible refine (examboardlaw43_awake.calls kj31  t351 _ A61.out).mono ?_); rintro e w67 ⟨rfl, hb⟩; have n0_ := Aside0.mk (Kd.N_below (by (with_reducible repeat (first | apply Kd.N_alloc | apply Kd.N_drewN | apply Kd.N_drew)); exact HO_9.out) hb); have n1_ := Aside0.mk (Kd.N_below (by (with_reducible repeat (first | apply Kd.N_alloc | apply Kd.N_drewN | apply Kd.N_drew)); exact HO_12.out) hb); have n2_ := Aside0.mk (blk_below (g := gb328) (o := .cells #[.int .i64 a0_0, .int .i64 a0_1] 23 (0, 0)) (Bk BK328.out) hb); have n3_ := Aside0.mk (blk_below (g := gb329) (o := .cells #[.int .i64 a1_0, .slice A1_1 l1_1.length c1_1] 26 (0, 0)) (Bk BK329.out) hb); have n4_ := Aside0.mk (below_step (Bw HB.out) hb); clear HO_9; clear HO_12; clear BK328; clear BK329; clear HB; have HO_9 := n0_; have HO_12 := n1_; have BK328 := n2_; have BK329 := n3_; have HB := n4_; clear n0_ n1_ n2_ n3_ n4_; (try clear hb); (try clear hb2); (try clear hk); (try clear hi)))
            go_ret
            exact ⟨by first | rfl | (simp [errW_none, errW_some] <;> rfl) | (simp [*, errW_none, errW_some] <;> rfl), Bw HB.out⟩
           ·
            rw [if_neg c60] at H
            have c60b0 : (t345 == t350) = false := beq_eq_false_iff_ne.mpr c60
            have c60b1 : (t345 != t350) = true := bne_iff_ne.mpr c60
            obtain rfl := Option.some.inj H
            have hnb68 := NB328_329.out
            have hnc68 := NB329_328.out
            have hcz69_0 : wc.cell? ⟨gb328, 0, none⟩ = some (.int .i64 a0_0) := (blk_cell BK328.out 0).trans rfl
            have hcz69_1 : wc.cell? ⟨gb328, 1, none⟩ = some (.int .i64 a0_1) := (blk_cell BK328.out 1).trans rfl
            have hfz69_0 := blk_frozen BK328.out 0
            have hfz69_1 := blk_frozen BK328.out 1
            have hcz70_0 : wc.cell? ⟨gb329, 0, none⟩ = some (.int .i64 a1_0) := (blk_cell BK329.out 0).trans rfl
            have hcz70_1 : wc.cell? ⟨gb329, 1, none⟩ = some (.slice A1_1 l1_1.length c1_1) := (blk_cell BK329.out 1).trans rfl
            have hfz70_0 := blk_frozen BK329.out 0
            have hfz70_1 := blk_frozen BK329.out 1
            obtain ⟨Ao71, co71, eo71⟩ := Kd.N_slice HO_12.out
            subst eo71
            go_wp2_with (first | ((with_reducible refine gate_callee (f := 12) rfl ?_); refine goesL_ (some 109) rfl rfl Try.func12 (by kernel_rfl) rfl #[.agg #[.int .i64 a0_0, .int .i64 a0_1], .agg #[.int .i64 a1_0, .slice A1_1 l1_1.length c1_1], .slice Ao71 t336.length co71] rfl (by (try simp only [List.map_toArray, List.map_cons, List.map_nil]); first | done | rfl | (simp only [List.length_drop, List.length_take]; rfl)) ?_; (with_reducible refine (adjudicate_Score.calls kj31 a0_0 a0_1 a1_0 _ _ l1_1 _ _ t336 t349 t350 _ ?side1 ?side2 ?side3 ?side4 A57.out).mono ?_); (case side1 => repeat (first | exact (Kd.C_below HR1_1.out HB.out) | (with_reducible refine Kd.C_alloc ?_ _) | (with_reducible refine Kd.C_drewN ?_ _) | (with_reducible refine Kd.C_drew ?_))); (case side2 => exact HC1_1.out); (case side3 => repeat (first | exact (Kd.N_reads' HO_12.out).2.2 | (with_reducible refine Kd.C_alloc ?_ _) | (with_reducible refine Kd.C_drewN ?_ _) | (with_reducible refine Kd.C_drew ?_))); (case side4 => exact (Kd.N_reads' HO_12.out).2.1); rintro e w72 ⟨rfl, hb⟩; refine ⟨_, rfl, ?_⟩; have n0_ := Aside0.mk (Kd.N_below (by (with_reducible repeat (first | apply Kd.N_alloc | apply Kd.N_drewN | apply Kd.N_drew)); exact HO_9.out) hb); have n1_ := Aside0.mk (Kd.N_below (by (with_reducible repeat (first | apply Kd.N_alloc | apply Kd.N_drewN | apply Kd.N_drew)); exact HO_12.out) hb); have n2_ := Aside0.mk (blk_below (g := gb328) (o := .cells #[.int .i64 a0_0, .int .i64 a0_1] 23 (0, 0)) (Bk BK328.out) hb); have n3_ := Aside0.mk (blk_below (g := gb329) (o := .cells #[.int .i64 a1_0, .slice A1_1 l1_1.length c1_1] 26 (0, 0)) (Bk BK329.out) hb); have n4_ := Aside0.mk (below_step (Bw HB.out) hb); clear HO_9; clear HO_12; clear BK328; clear BK329; clear HB; have HO_9 := n0_; have HO_12 := n1_; have BK328 := n2_; have BK329 := n3_; have HB := n4_; clear n0_ n1_ n2_ n3_ n4_; (try clear hb); (try clear hb2); (try clear hk); (try clear hi)))
            go_ret
            exact ⟨by first | rfl | (simp [errW_none, errW_some] <;> rfl) | (simp [*, errW_none, errW_some] <;> rfl), Bw HB.out⟩
          ·
           rw [if_neg c59] at H
           have c59b0 : (t344 == t349) = false := beq_eq_false_iff_ne.mpr c59
           have c59b1 : (t344 != t349) = true := bne_iff_ne.mpr c59
           obtain rfl := Option.some.inj H
           have hnb73 := NB328_329.out
           have hnc73 := NB329_328.out
           have hcz74_0 : wc.cell? ⟨gb328, 0, none⟩ = some (.int .i64 a0_0) := (blk_cell BK328.out 0).trans rfl
           have hcz74_1 : wc.cell? ⟨gb328, 1, none⟩ = some (.int .i64 a0_1) := (blk_cell BK328.out 1).trans rfl
           have hfz74_0 := blk_frozen BK328.out 0
           have hfz74_1 := blk_frozen BK328.out 1
           have hcz75_0 : wc.cell? ⟨gb329, 0, none⟩ = some (.int .i64 a1_0) := (blk_cell BK329.out 0).trans rfl
           have hcz75_1 : wc.cell? ⟨gb329, 1, none⟩ = some (.slice A1_1 l1_1.length c1_1) := (blk_cell BK329.out 1).trans rfl
           have hfz75_0 := blk_frozen BK329.out 0
           have hfz75_1 := blk_frozen BK329.out 1
           obtain ⟨Ao76, co76, eo76⟩ := Kd.N_slice HO_12.out
           subst eo76
           go_wp2_with (first | ((with_reducible refine gate_callee (f := 12) rfl ?_); refine goesL_ (some 109) rfl rfl Try.func12 (by kernel_rfl) rfl #[.agg #[.int .i64 a0_0, .int .i64 a0_1], .agg #[.int .i64 a1_0, .slice A1_1 l1_1.length c1_1], .slice Ao76 t336.length co76] rfl (by (try simp only [List.map_toArray, List.map_cons, List.map_nil]); first | done | rfl | (simp only [List.length_drop, List.length_take]; rfl)) ?_; (with_reducible refine (adjudicate_Score.calls kj31 a0_0 a0_1 a1_0 _ _ l1_1 _ _ t336 t349 t350 _ ?side1 ?side2 ?side3 ?side4 A57.out).mono ?_); (case side1 => repeat (first | exact (Kd.C_below HR1_1.out HB.out) | (with_reducible refine Kd.C_alloc ?_ _) | (with_reducible refine Kd.C_drewN ?_ _) | (with_reducible refine Kd.C_drew ?_))); (case side2 => exact HC1_1.out); (case side3 => repeat (first | exact (Kd.N_reads' HO_12.out).2.2 | (with_reducible refine Kd.C_alloc ?_ _) | (with_reducible refine Kd.C_drewN ?_ _) | (with_reducible refine Kd.C_drew ?_))); (case side4 => exact (Kd.N_reads' HO_12.out).2.1); rintro e w77 ⟨rfl, hb⟩; refine ⟨_, rfl, ?_⟩; have n0_ := Aside0.mk (Kd.N_below (by (with_reducible repeat (first | apply Kd.N_alloc | apply Kd.N_drewN | apply Kd.N_drew)); exact HO_9.out) hb); have n1_ := Aside0.mk (Kd.N_below (by (with_reducible repeat (first | apply Kd.N_alloc | apply Kd.N_drewN | apply Kd.N_drew)); exact HO_12.out) hb); have n2_ := Aside0.mk (blk_below (g := gb328) (o := .cells #[.int .i64 a0_0, .int .i64 a0_1] 23 (0, 0)) (Bk BK328.out) hb); have n3_ := Aside0.mk (blk_below (g := gb329) (o := .cells #[.int .i64 a1_0, .slice A1_1 l1_1.length c1_1] 26 (0, 0)) (Bk BK329.out) hb); have n4_ := Aside0.mk (below_step (Bw HB.out) hb); clear HO_9; clear HO_12; clear BK328; clear BK329; clear HB; have HO_9 := n0_; have HO_12 := n1_; have BK328 := n2_; have BK329 := n3_; have HB := n4_; clear n0_ n1_ n2_ n3_ n4_; (try clear hb); (try clear hb2); (try clear hk); (try clear hi)))
           go_ret
           exact ⟨by first | rfl | (simp [errW_none, errW_some] <;> rfl) | (simp [*, errW_none, errW_some] <;> rfl), Bw HB.out⟩
         ·
          rw [if_neg c58] at H
          have c58b0 : ((t336.length : Int) == (x9_1.length : Int)) = false := beq_eq_false_iff_ne.mpr c58
          have c58b1 : ((t336.length : Int) != (x9_1.length : Int)) = true := bne_iff_ne.mpr c58
          have c58b2 : (t336.length == x9_1.length) = false := by first | simpa using c58 | (simp at c58 ⊢; omega)
          obtain rfl := Option.some.inj H
          have hnb78 := NB328_329.out
          have hnc78 := NB329_328.out
          have hcz79_0 : wc.cell? ⟨gb328, 0, none⟩ = some (.int .i64 a0_0) := (blk_cell BK328.out 0).trans rfl
          have hcz79_1 : wc.cell? ⟨gb328, 1, none⟩ = some (.int .i64 a0_1) := (blk_cell BK328.out 1).trans rfl
          have hfz79_0 := blk_frozen BK328.out 0
          have hfz79_1 := blk_frozen BK328.out 1
          have hcz80_0 : wc.cell? ⟨gb329, 0, none⟩ = some (.int .i64 a1_0) := (blk_cell BK329.out 0).trans rfl
          have hcz80_1 : wc.cell? ⟨gb329, 1, none⟩ = some (.slice A1_1 l1_1.length c1_1) := (blk_cell BK329.out 1).trans rfl
          have hfz80_0 := blk_frozen BK329.out 0
          have hfz80_1 := blk_frozen BK329.out 1
          obtain ⟨Ao81, co81, eo81⟩ := Kd.N_slice HO_12.out
          subst eo81
          go_wp2_with (first | ((with_reducible refine gate_callee (f := 12) rfl ?_); refine goesL_ (some 109) rfl rfl Try.func12 (by kernel_rfl) rfl #[.agg #[.int .i64 a0_0, .int .i64 a0_1], .agg #[.int .i64 a1_0, .slice A1_1 l1_1.length c1_1], .slice Ao81 t336.length co81] rfl (by (try simp only [List.map_toArray, List.map_cons, List.map_nil]); first | done | rfl | (simp only [List.length_drop, List.length_take]; rfl)) ?_; (with_reducible refine (adjudicate_Score.calls kj31 a0_0 a0_1 a1_0 _ _ l1_1 _ _ t336 t349 t350 _ ?side1 ?side2 ?side3 ?side4 A57.out).mono ?_); (case side1 => repeat (first | exact (Kd.C_below HR1_1.out HB.out) | (with_reducible refine Kd.C_alloc ?_ _) | (with_reducible refine Kd.C_drewN ?_ _) | (with_reducible refine Kd.C_drew ?_))); (case side2 => exact HC1_1.out); (case side3 => repeat (first | exact (Kd.N_reads' HO_12.out).2.2 | (with_reducible refine Kd.C_alloc ?_ _) | (with_reducible refine Kd.C_drewN ?_ _) | (with_reducible refine Kd.C_drew ?_))); (case side4 => exact (Kd.N_reads' HO_12.out).2.1); rintro e w82 ⟨rfl, hb⟩; refine ⟨_, rfl, ?_⟩; have n0_ := Aside0.mk (Kd.N_below (by (with_reducible repeat (first | apply Kd.N_alloc | apply Kd.N_drewN | apply Kd.N_drew)); exact HO_9.out) hb); have n1_ := Aside0.mk (Kd.N_below (by (with_reducible repeat (first | apply Kd.N_alloc | apply Kd.N_drewN | apply Kd.N_drew)); exact HO_12.out) hb); have n2_ := Aside0.mk (blk_below (g := gb328) (o := .cells #[.int .i64 a0_0, .int .i64 a0_1] 23 (0, 0)) (Bk BK328.out) hb); have n3_ := Aside0.mk (blk_below (g := gb329) (o := .cells #[.int .i64 a1_0, .slice A1_1 l1_1.length c1_1] 26 (0, 0)) (Bk BK329.out) hb); have n4_ := Aside0.mk (below_step (Bw HB.out) hb); clear HO_9; clear HO_12; clear BK328; clear BK329; clear HB; have HO_9 := n0_; have HO_12 := n1_; have BK328 := n2_; have BK329 := n3_; have HB := n4_; clear n0_ n1_ n2_ n3_ n4_; (try clear hb); (try clear hb2); (try clear hk); (try clear hi)))
          go_ret
          exact ⟨by first | rfl | (simp [errW_none, errW_some] <;> rfl) | (simp [*, errW_none, errW_some] <;> rfl), Bw HB.out⟩
        ·
         rw [if_neg c56] at H
         have c56b0 : (t337 == 0) = false := beq_eq_false_iff_ne.mpr c56
         have c56b1 : (t337 != 0) = true := bne_iff_ne.mpr c56
         by_cases c83 : (t336.length : Int) = 0
         ·
          rw [if_pos c83] at H
          have c83b0 : ((t336.length : Int) == 0) = true := beq_iff_eq.mpr c83
          have c83b1 : ((t336.length : Int) != 0) = false := bne_eq_false_iff_eq.mpr c83
          clear c83
          by_cases c84 : t337 = 10
          ·
           rw [if_pos c84] at H
           have c84b0 : (t337 == 10) = true := beq_iff_eq.mpr c84
           have c84b1 : (t337 != 10) = false := bne_eq_false_iff_eq.mpr c84
           clear c84
           by_cases c85 : t345 = t337
           ·
            rw [if_pos c85] at H
            have c85b0 : (t345 == t337) = true := beq_iff_eq.mpr c85
            have c85b1 : (t345 != t337) = false := bne_eq_false_iff_eq.mpr c85
            clear c85
            replace H := Option.bind_eq_some_iff.mp H
            obtain ⟨t352, A860, H⟩ := H
            replace H : (some t352) = some r := H
            have A86 := Aside0.mk A860
            clear A860
            obtain rfl := Option.some.inj H
            obtain ⟨Ao87, co87, eo87⟩ := Kd.N_slice HO_12.out
            subst eo87
            go_wp2_with (first | (go_at_call 8; (with_reducible refine (examboardlaw43_awake.calls kj31  t352 _ A86.out).mono ?_); rintro e w88 ⟨rfl, hb⟩; have n0_ := Aside0.mk (Kd.N_below (by (with_reducible repeat (first | apply Kd.N_alloc | apply Kd.N_drewN | apply Kd.N_drew)); exact HO_9.out) hb); have n1_ := Aside0.mk (Kd.N_below (by (with_reducible repeat (first | apply Kd.N_alloc | apply Kd.N_drewN | apply Kd.N_drew)); exact HO_12.out) hb); have n2_ := Aside0.mk (blk_below (g := gb328) (o := .cells #[.int .i64 a0_0, .int .i64 a0_1] 23 (0, 0)) (Bk BK328.out) hb); have n3_ := Aside0.mk (blk_below (g := gb329) (o := .cells #[.int .i64 a1_0, .slice A1_1 l1_1.length c1_1] 26 (0, 0)) (Bk BK329.out) hb); have n4_ := Aside0.mk (below_step (Bw HB.out) hb); clear HO_9; clear HO_12; clear BK328; clear BK329; clear HB; have HO_9 := n0_; have HO_12 := n1_; have BK328 := n2_; have BK329 := n3_; have HB := n4_; clear n0_ n1_ n2_ n3_ n4_; (try clear hb); (try clear hb2); (try clear hk); (try clear hi)))
            go_ret
            exact ⟨by first | rfl | (simp [errW_none, errW_some] <;> rfl) | (simp [*, errW_none, errW_some] <;> rfl), Bw HB.out⟩
           ·
            rw [if_neg c85] at H
            have c85b0 : (t345 == t337) = false := beq_eq_false_iff_ne.mpr c85
            have c85b1 : (t345 != t337) = true := bne_iff_ne.mpr c85
            obtain rfl := Option.some.inj H
            obtain ⟨Ao89, co89, eo89⟩ := Kd.N_slice HO_12.out
            subst eo89
            go_wp2
            go_ret
            exact ⟨by first | rfl | (simp [errW_none, errW_some] <;> rfl) | (simp [*, errW_none, errW_some] <;> rfl), Bw HB.out⟩
          ·
           rw [if_neg c84] at H
           have c84b0 : (t337 == 10) = false := beq_eq_false_iff_ne.mpr c84
           have c84b1 : (t337 != 10) = true := bne_iff_ne.mpr c84
           obtain rfl := Option.some.inj H
           obtain ⟨Ao90, co90, eo90⟩ := Kd.N_slice HO_12.out
           subst eo90
           go_wp2
           go_ret
           exact ⟨by first | rfl | (simp [errW_none, errW_some] <;> rfl) | (simp [*, errW_none, errW_some] <;> rfl), Bw HB.out⟩
         ·
          rw [if_neg c83] at H
          have c83b0 : ((t336.length : Int) == 0) = false := beq_eq_false_iff_ne.mpr c83
          have c83b1 : ((t336.length : Int) != 0) = true := bne_iff_ne.mpr c83
          have c83b2 : ¬ (t336 = []) := fun h_ => c83 (by rw [h_]; rfl)
          obtain rfl := Option.some.inj H
          obtain ⟨Ao91, co91, eo91⟩ := Kd.N_slice HO_12.out
          subst eo91
          go_wp2
          go_ret
          exact ⟨by first | rfl | (simp [errW_none, errW_some] <;> rfl) | (simp [*, errW_none, errW_some] <;> rfl), Bw HB.out⟩

end Go.Proofs.Ytkajeeikpffioaa.All
