-- Written by myprint.py for this claim: functions of the program as Lean functions, with the proofs that the calls come to them.
import Derived.Test.YtkajeeikpffioaaAllx0
import Derived.Test.YtkajeeikpffioaaAllx14
import Derived.Test.YtkajeeikpffioaaAllx15
import Derived.Test.YtkajeeikpffioaaAllx16
import Derived.Test.YtkajeeikpffioaaAllx17
namespace Go.Proofs.Ytkajeeikpffioaa.All
open Go.RowKit Go.Proofs.YtkajeeikpffioaaW.PrintWords Go.Proofs.YtkajeeikpffioaaW.PrintLast Go.Proofs.YtkajeeikpffioaaW.PrintMore
attribute [local go_sem] max2_int min2_int max_two min_two max_three min_three max_four min_four   -- for this text's walks alone
set_option linter.unusedVariables false
set_option linter.unusedSimpArgs false

/-! ### examboardref43_Score: function 18 -/
mutual
def examboardref43_Score.j0 : Nat → List (List Int) → Int → Int → Bool → Int → Int → Int → List (S59) → Option (Int × Int)
 | 0, _, _, _, _, _, _, _, _ => none
 | k + 1, x2, x10, x12, x52, x372000, x372001, x373000, x373001 => if x52 = true then (some (wrap64 (x10 + x12), 0)) else (if 0 < (x2.length : Int) then (if 1 < (x2.length : Int) then ((examboardref43_Agree.f k x372000 x372001 x373000 x373001 (rd_L1 x2 0) (rd_L1 x2 1)).bind fun bt383 => (if bt383.1 = true then (some (0, 21)) else (if 2 < (x2.length : Int) then ((examboardref41_Total.f k x373000 x373001 (rd_L1 x2 2)).bind fun bt386 => (examboardref43_Score.j1 k x2 x10 x12 bt386.1 x372001 (x372001 == 1) x373000 x373001)) else (none)))) else (none)) else (none))
def examboardref43_Score.j1 : Nat → List (List Int) → Int → Int → Int → Int → Bool → Int → List (S59) → Option (Int × Int)
 | 0, _, _, _, _, _, _, _, _ => none
 | k + 1, x2, x10, x12, x16, x78, x79, x373000, x373001 => if x79 = true then (some (wrap64 (2 * x16), 0)) else (if x78 = 2 then ((examboardref43_apart.f x12 x16).bind fun t388 => ((examboardref43_apart.f x10 x16).bind fun t389 => (if t388 < t389 then (some (wrap64 (x12 + x16), 0)) else (some (wrap64 (x10 + x16), 0))))) else (if 0 < (x2.length : Int) then (if 1 < (x2.length : Int) then (if 2 < (x2.length : Int) then ((examboardref41_Median.f k x373000 x373001 (rd_L1 x2 0) (rd_L1 x2 1) (rd_L1 x2 2)).bind fun bt393 => ((examboardref41_Total.f k x373000 x373001 bt393.1).bind fun bt397 => (some (wrap64 (2 * bt397.1), 0)))) else (none)) else (none)) else (none)))
end
def examboardref43_Score.f (k : Nat) (a0_0 : Int) (a0_1 : Int) (a1_0 : Int) (l1_1 : List (S59)) (l2 : List (List Int)) : Option (Int × Int) := (examboardref43_Need.f k a0_0 a0_1 a1_0 l1_1 l2).bind fun bt373 => (if bt373.2 = 0 then (if bt373.1 > 0 then (some (0, 22)) else (if 0 < (l2.length : Int) then ((examboardref41_Total.f k a1_0 l1_1 (rd_L1 l2 0)).bind fun bt376 => (if 1 < (l2.length : Int) then ((examboardref41_Total.f k a1_0 l1_1 (rd_L1 l2 1)).bind fun bt379 => (examboardref43_Score.j0 k l2 bt376.1 bt379.1 ((l2.length : Int) == 2) a0_0 a0_1 a1_0 l1_1)) else (none))) else (none))) else (some (0, bt373.2)))
theorem examboardref43_Score.mono_l : ∀ k, (∀ y0 y1 y2 y3 y4 y5 y6 y7, LeO (examboardref43_Score.j0 k y0 y1 y2 y3 y4 y5 y6 y7) (examboardref43_Score.j0 (k + 1) y0 y1 y2 y3 y4 y5 y6 y7)) ∧ (∀ y0 y1 y2 y3 y4 y5 y6 y7, LeO (examboardref43_Score.j1 k y0 y1 y2 y3 y4 y5 y6 y7) (examboardref43_Score.j1 (k + 1) y0 y1 y2 y3 y4 y5 y6 y7))
 | 0 => ⟨fun _ _ _ _ _ _ _ _ r h => by simp [examboardref43_Score.j0] at h, fun _ _ _ _ _ _ _ _ r h => by simp [examboardref43_Score.j1] at h⟩
 | k + 1 => by
  obtain ⟨ih0, ih1⟩ := examboardref43_Score.mono_l k
  refine ⟨?_, ?_⟩
  ·
   intro y0 y1 y2 y3 y4 y5 y6 y7
   unfold examboardref43_Score.j0
   repeat' first
   | (with_reducible exact ih0 _ _ _ _ _ _ _ _)
   | (with_reducible exact ih1 _ _ _ _ _ _ _ _)
   | (with_reducible exact examboardref41_Median.mono _ _ _ _ _ _)
   | (with_reducible exact examboardref41_Total.mono _ _ _ _)
   | (with_reducible exact examboardref43_Agree.mono _ _ _ _ _ _ _)
   | (with_reducible exact examboardref43_Need.mono _ _ _ _ _ _)
   | (with_reducible exact LeO.refl _)
   | (with_reducible exact LeO.none _)
   | (with_reducible refine LeO.ite ?_ ?_)
   | (with_reducible refine LeO.bind ?_ (fun _ => ?_))
   | exact ih0 _ _ _ _ _ _ _ _
   | exact ih1 _ _ _ _ _ _ _ _
   | exact examboardref41_Median.mono _ _ _ _ _ _
   | exact examboardref41_Total.mono _ _ _ _
   | exact examboardref43_Agree.mono _ _ _ _ _ _ _
   | exact examboardref43_Need.mono _ _ _ _ _ _
   | exact LeO.none _
   | refine LeO.ite ?_ ?_
   | refine LeO.bind ?_ (fun _ => ?_)
  ·
   intro y0 y1 y2 y3 y4 y5 y6 y7
   unfold examboardref43_Score.j1
   repeat' first
   | (with_reducible exact ih0 _ _ _ _ _ _ _ _)
   | (with_reducible exact ih1 _ _ _ _ _ _ _ _)
   | (with_reducible exact examboardref41_Median.mono _ _ _ _ _ _)
   | (with_reducible exact examboardref41_Total.mono _ _ _ _)
   | (with_reducible exact examboardref43_Agree.mono _ _ _ _ _ _ _)
   | (with_reducible exact examboardref43_Need.mono _ _ _ _ _ _)
   | (with_reducible exact LeO.refl _)
   | (with_reducible exact LeO.none _)
   | (with_reducible refine LeO.ite ?_ ?_)
   | (with_reducible refine LeO.bind ?_ (fun _ => ?_))
   | exact ih0 _ _ _ _ _ _ _ _
   | exact ih1 _ _ _ _ _ _ _ _
   | exact examboardref41_Median.mono _ _ _ _ _ _
   | exact examboardref41_Total.mono _ _ _ _
   | exact examboardref43_Agree.mono _ _ _ _ _ _ _
   | exact examboardref43_Need.mono _ _ _ _ _ _
   | exact LeO.none _
   | refine LeO.ite ?_ ?_
   | refine LeO.bind ?_ (fun _ => ?_)
theorem examboardref43_Score.mono : ∀ a0 a1 a2 a3 a4 k, LeO (examboardref43_Score.f k a0 a1 a2 a3 a4) (examboardref43_Score.f (k + 1) a0 a1 a2 a3 a4) := by
 intro a0 a1 a2 a3 a4 k
 obtain ⟨ih0, ih1⟩ := examboardref43_Score.mono_l k
 unfold examboardref43_Score.f
 repeat' first
   | (with_reducible exact ih0 _ _ _ _ _ _ _ _)
   | (with_reducible exact ih1 _ _ _ _ _ _ _ _)
   | (with_reducible exact examboardref41_Median.mono _ _ _ _ _ _)
   | (with_reducible exact examboardref41_Total.mono _ _ _ _)
   | (with_reducible exact examboardref43_Agree.mono _ _ _ _ _ _ _)
   | (with_reducible exact examboardref43_Need.mono _ _ _ _ _ _)
   | (with_reducible exact LeO.refl _)
   | (with_reducible exact LeO.none _)
   | (with_reducible refine LeO.ite ?_ ?_)
   | (with_reducible refine LeO.bind ?_ (fun _ => ?_))
   | exact ih0 _ _ _ _ _ _ _ _
   | exact ih1 _ _ _ _ _ _ _ _
   | exact examboardref41_Median.mono _ _ _ _ _ _
   | exact examboardref41_Total.mono _ _ _ _
   | exact examboardref43_Agree.mono _ _ _ _ _ _ _
   | exact examboardref43_Need.mono _ _ _ _ _ _
   | exact LeO.none _
   | refine LeO.ite ?_ ?_
   | refine LeO.bind ?_ (fun _ => ?_)
def examboardref43_Score.T6 : Bool × List (List Nat × List Nat) := (true, [([], []), ([], []), ([1], [1]), ([2], [2]), ([0, 3], [0, 3]), ([4], [4]), ([5], [5]), ([5], [5]), ([6, 4, 0, 1, 2, 3, 4, 5, 6], [6]), ([7, 8, 0, 1, 2, 3, 4, 5, 6, 7, 8], [7])])
def examboardref43_Score.B6 : List Nat := [0, 0, 2, 6, 15, 31, 63, 63, 127, 511]
theorem examboardref43_Score.tab6 : rtab .any (opsOf Try.f18 6) = examboardref43_Score.T6 := by kernel_rfl
theorem examboardref43_Score.bits6 : waitsOk examboardref43_Score.T6.2 examboardref43_Score.B6 = true := by kernel_rfl
def examboardref43_Score.T7 : Bool × List (List Nat × List Nat) := (true, [([], []), ([], []), ([1], [1]), ([2], [2]), ([0, 3], [0, 3]), ([4], [4]), ([5], [5]), ([5], [5]), ([6, 4, 0, 1, 2, 3, 4, 5, 6], [6]), ([7, 8, 0, 1, 2, 3, 4, 5, 6, 7, 8], [7])])
def examboardref43_Score.B7 : List Nat := [0, 0, 2, 6, 15, 31, 63, 63, 127, 511]
theorem examboardref43_Score.tab7 : rtab .any (opsOf Try.f18 7) = examboardref43_Score.T7 := by kernel_rfl
theorem examboardref43_Score.bits7 : waitsOk examboardref43_Score.T7.2 examboardref43_Score.B7 = true := by kernel_rfl
def examboardref43_Score.T10 : Bool × List (List Nat × List Nat) := (true, [([], []), ([], []), ([], []), ([2], [2]), ([3], [3]), ([], []), ([5], [5]), ([6], [6]), ([0, 1, 4, 7], [0, 1, 4, 7]), ([8], [8]), ([9], [9]), ([9], [9]), ([10, 8, 0, 1, 2, 3, 4, 5, 6, 7, 8, 9, 10], [10]), ([11, 12, 0, 1, 2, 3, 4, 5, 6, 7, 8, 9, 10, 11, 12], [11])])
def examboardref43_Score.B10 : List Nat := [0, 0, 0, 4, 12, 0, 32, 96, 255, 511, 1023, 1023, 2047, 8191]
theorem examboardref43_Score.tab10 : rtab .any (opsOf Try.f18 10) = examboardref43_Score.T10 := by kernel_rfl
theorem examboardref43_Score.bits10 : waitsOk examboardref43_Score.T10.2 examboardref43_Score.B10 = true := by kernel_rfl
def examboardref43_Score.T13 : Bool × List (List Nat × List Nat) := (true, [([], []), ([], []), ([1], [1]), ([2], [2]), ([0, 3], [0, 3]), ([4], [4]), ([5], [5]), ([5], [5]), ([6, 4, 0, 1, 2, 3, 4, 5, 6], [6]), ([7, 8, 0, 1, 2, 3, 4, 5, 6, 7, 8], [7])])
def examboardref43_Score.B13 : List Nat := [0, 0, 2, 6, 15, 31, 63, 63, 127, 511]
theorem examboardref43_Score.tab13 : rtab .any (opsOf Try.f18 13) = examboardref43_Score.T13 := by kernel_rfl
theorem examboardref43_Score.bits13 : waitsOk examboardref43_Score.T13.2 examboardref43_Score.B13 = true := by kernel_rfl
def examboardref43_Score.T21 : Bool × List (List Nat × List Nat) := (true, [([], []), ([], []), ([1], [1]), ([2], [2]), ([], []), ([4], [4]), ([5], [5]), ([], []), ([7], [7]), ([8], [8]), ([0, 3, 6, 9], [0, 3, 6, 9]), ([10], [10]), ([11], [11]), ([11], [11]), ([12, 10, 0, 1, 2, 3, 4, 5, 6, 7, 8, 9, 10, 11, 12], [12]), ([13, 14, 0, 1, 2, 3, 4, 5, 6, 7, 8, 9, 10, 11, 12, 13, 14], [13])])
def examboardref43_Score.B21 : List Nat := [0, 0, 2, 6, 0, 16, 48, 0, 128, 384, 1023, 2047, 4095, 4095, 8191, 32767]
theorem examboardref43_Score.tab21 : rtab .any (opsOf Try.f18 21) = examboardref43_Score.T21 := by kernel_rfl
theorem examboardref43_Score.bits21 : waitsOk examboardref43_Score.T21.2 examboardref43_Score.B21 = true := by kernel_rfl
set_option maxHeartbeats 8000000 in
set_option maxRecDepth 100000 in
theorem examboardref43_Score.calls (k : Nat) (a0_0 : Int) (a0_1 : Int) (a1_0 : Int) (A1_1 : Option Addr) (c1_1 : Nat) (l1_1 : List (S59)) (A2 : Option Addr) (c2 : Nat) (l2 : List (List Int)) (r1 : Int) (r2 : Int) (w : World) (hr1_1 : Kd.C k59 w A1_1 l1_1.length l1_1) (hc1_1 : l1_1.length ≤ c1_1) (hr2 : Kd.C (Kd.slice 3 (Kd.int .i64)) w A2 l2.length l2) (hc2 : l2.length ≤ c2) (h : examboardref43_Score.f k a0_0 a0_1 a1_0 l1_1 l2 = some (r1, r2)) :
  Calls Try.prog 18 #[.agg #[.int .i64 a0_0, .int .i64 a0_1], .agg #[.int .i64 a1_0, .slice A1_1 l1_1.length c1_1], .slice A2 l2.length c2] w fun e w' => e = .returned (.tuple #[.int .i64 r1, .int .i64 r2]) ∧ Below w.heap.size w w' := by
 have hu23 := Try.underlying23
 have hu26 := Try.underlying26
 have HR1_1 := Aside0.mk hr1_1
 have HC1_1 := Aside0.mk hc1_1
 clear hr1_1 hc1_1
 have HR2 := Aside0.mk hr2
 have HC2 := Aside0.mk hc2
 clear hr2 hc2
 have HB := Aside0.mk (Below.refl w.heap.size w)
 have H : ((examboardref43_Need.f k a0_0 a0_1 a1_0 l1_1 l2).bind fun bt373 => (if bt373.2 = 0 then (if bt373.1 > 0 then (some (0, 22)) else (if 0 < (l2.length : Int) then ((examboardref41_Total.f k a1_0 l1_1 (rd_L1 l2 0)).bind fun bt376 => (if 1 < (l2.length : Int) then ((examboardref41_Total.f k a1_0 l1_1 (rd_L1 l2 1)).bind fun bt379 => (examboardref43_Score.j0 k l2 bt376.1 bt379.1 ((l2.length : Int) == 2) a0_0 a0_1 a1_0 l1_1)) else (none))) else (none))) else (some (0, bt373.2)))) = some (r1, r2) := h
 clear h
 replace H := Option.bind_eq_some_iff.mp H
 obtain ⟨⟨t373, t374⟩, A40, H⟩ := H
 replace H : (if t374 = 0 then (if t373 > 0 then (some (0, 22)) else (if 0 < (l2.length : Int) then ((examboardref41_Total.f k a1_0 l1_1 (rd_L1 l2 0)).bind fun bt376 => (if 1 < (l2.length : Int) then ((examboardref41_Total.f k a1_0 l1_1 (rd_L1 l2 1)).bind fun bt379 => (examboardref43_Score.j0 k l2 bt376.1 bt379.1 ((l2.length : Int) == 2) a0_0 a0_1 a1_0 l1_1)) else (none))) else (none))) else (some (0, t374))) = some (r1, r2) := H
 have A4 := Aside0.mk A40
 clear A40
 by_cases c5 : t374 = 0
 ·
  rw [if_pos c5] at H
  have c5b0 : (t374 == 0) = true := beq_iff_eq.mpr c5
  have c5b1 : (t374 != 0) = false := bne_eq_false_iff_eq.mpr c5
  clear c5
  by_cases c6 : t373 > 0
  ·
   rw [if_pos c6] at H
   have c6b0 : decide (0 < t373) = true := decide_eq_true c6
   clear c6
   simp only [Option.some.injEq, Prod.mk.injEq] at H
   obtain ⟨rfl, rfl⟩ := H
   go_enter Try.func18, Try.ntmps18
   go_wp2_with (first | ((with_reducible refine gate_dst (N := 3) rfl ?_); refine box_event ?hg (N := 3) ?hd (cs := #[.int .i64 a0_0, .int .i64 a0_1]) (t := 23) ?hr ?_; (case hd => rfl); (case hg => rfl); (case hr => first | (go_simp; done) | (go_simp; rfl)); intro gb371 hg w7 hbox hb; have n0_ := Aside0.mk (below_step (Bw HB.out) hb); have n1_ := Aside0.mk (hbox); have n2_ := Aside0.mk (Gs hg (Bw HB.out)); have n3_ := Aside0.mk (Gs hg (Bw HB.out)); clear HB; have HB := n0_; have BK371 := n1_; have GW371 := n2_; have GE371 := n3_; clear n0_ n1_ n2_ n3_; clear hb hbox hg) | ((with_reducible refine gate_dst (N := 4) rfl ?_); refine box_event ?hg (N := 4) ?hd (cs := #[.int .i64 a1_0, .slice A1_1 l1_1.length c1_1]) (t := 26) ?hr ?_; (case hd => rfl); (case hg => rfl); (case hr => first | (go_simp; done) | (go_simp; rfl)); intro gb372 hg w8 hbox hb; have n0_ := Aside0.mk (blk_below (g := gb371) (o := .cells #[.int .i64 a0_0, .int .i64 a0_1] 23 (0, 0)) (Bk BK371.out) hb); have n1_ := Aside0.mk (below_step (Bw HB.out) hb); have n2_ := Aside0.mk (hbox); have n3_ := Aside0.mk (Gs hg (Bw HB.out)); have n4_ := Aside0.mk (Gs hg (Bw HB.out)); have n5_ := Aside0.mk ((by rw [hg]; exact Nat.ne_of_lt (blk_lt (g := gb371) (o := .cells #[.int .i64 a0_0, .int .i64 a0_1] 23 (0, 0)) (Bk BK371.out)) : gb371 ≠ gb372)); have n6_ := Aside0.mk ((by rw [hg]; exact Nat.ne_of_gt (blk_lt (g := gb371) (o := .cells #[.int .i64 a0_0, .int .i64 a0_1] 23 (0, 0)) (Bk BK371.out)) : gb372 ≠ gb371)); clear BK371; clear HB; have BK371 := n0_; have HB := n1_; have BK372 := n2_; have GW372 := n3_; have GE372 := n4_; have NB371_372 := n5_; have NB372_371 := n6_; clear n0_ n1_ n2_ n3_ n4_ n5_ n6_; clear hb hbox hg; have hnb9 := NB371_372.out; have hnc9 := NB372_371.out; have hcz10_0 : w8.cell? ⟨gb371, 0, none⟩ = some (.int .i64 a0_0) := (blk_cell BK371.out 0).trans rfl; have hcz10_1 : w8.cell? ⟨gb371, 1, none⟩ = some (.int .i64 a0_1) := (blk_cell BK371.out 1).trans rfl; have hfz10_0 := blk_frozen BK371.out 0; have hfz10_1 := blk_frozen BK371.out 1; have hcz11_0 : w8.cell? ⟨gb372, 0, none⟩ = some (.int .i64 a1_0) := (blk_cell BK372.out 0).trans rfl; have hcz11_1 : w8.cell? ⟨gb372, 1, none⟩ = some (.slice A1_1 l1_1.length c1_1) := (blk_cell BK372.out 1).trans rfl; have hfz11_0 := blk_frozen BK372.out 0; have hfz11_1 := blk_frozen BK372.out 1) | ((with_reducible refine gate_callee (f := 17) rfl ?_); refine goesL_ (some 26) rfl rfl Try.func17 (by kernel_rfl) rfl #[.agg #[.int .i64 a0_0, .int .i64 a0_1], .agg #[.int .i64 a1_0, .slice A1_1 l1_1.length c1_1], .slice A2 l2.length c2] rfl (by (try simp only [List.map_toArray, List.map_cons, List.map_nil]); first | done | rfl | (simp only [List.length_drop, List.length_take]; rfl)) ?_; (with_reducible refine (examboardref43_Need.calls k a0_0 a0_1 a1_0 _ _ l1_1 _ _ l2 t373 t374 _ ?side1 ?side2 ?side3 ?side4 A4.out).mono ?_); (case side1 => exact Ck (Kd.C_below HR1_1.out HB.out)); (case side2 => exact HC1_1.out); (case side3 => exact Ck (Kd.C_below HR2.out HB.out)); (case side4 => exact HC2.out); rintro e w12 ⟨rfl, hb⟩; refine ⟨_, rfl, ?_⟩; have n0_ := Aside0.mk (blk_below (g := gb371) (o := .cells #[.int .i64 a0_0, .int .i64 a0_1] 23 (0, 0)) (Bk BK371.out) hb); have n1_ := Aside0.mk (blk_below (g := gb372) (o := .cells #[.int .i64 a1_0, .slice A1_1 l1_1.length c1_1] 26 (0, 0)) (Bk BK372.out) hb); have n2_ := Aside0.mk (below_step (Bw HB.out) hb); clear BK371; clear BK372; clear HB; have BK371 := n0_; have BK372 := n1_; have HB := n2_; clear n0_ n1_ n2_; (try clear hb); (try clear hb2); (try clear hk); (try clear hi)))
   go_ret2
   exact ⟨Es, Bw HB.out⟩
  ·
   rw [if_neg c6] at H
   have c6b0 : decide (0 < t373) = false := decide_eq_false c6
   clear c6
   by_cases c13 : 0 < (l2.length : Int)
   ·
    rw [if_pos c13] at H
    have c13b0 : decide (0 < (l2.length : Int)) = true := decide_eq_true c13
    have c13b1 : decide (0 < l2.length) = true := decide_eq_true (by omega)
    clear c13
    replace H := Option.bind_eq_some_iff.mp H
    obtain ⟨⟨t376, t377⟩, A140, H⟩ := H
    replace H : (if 1 < (l2.length : Int) then ((examboardref41_Total.f k a1_0 l1_1 (rd_L1 l2 1)).bind fun bt379 => (examboardref43_Score.j0 k l2 t376 bt379.1 ((l2.length : Int) == 2) a0_0 a0_1 a1_0 l1_1)) else (none)) = some (r1, r2) := H
    have A14 := Aside0.mk A140
    clear A140
    by_cases c15 : 1 < (l2.length : Int)
    ·
     rw [if_pos c15] at H
     have c15b0 : decide (1 < (l2.length : Int)) = true := decide_eq_true c15
     have c15b1 : decide (1 < l2.length) = true := decide_eq_true (by omega)
     clear c15
     replace H := Option.bind_eq_some_iff.mp H
     obtain ⟨⟨t379, t380⟩, A160, H⟩ := H
     replace H : (examboardref43_Score.j0 k l2 t376 t379 ((l2.length : Int) == 2) a0_0 a0_1 a1_0 l1_1) = some (r1, r2) := H
     have A16 := Aside0.mk A160
     clear A160
     have HC17 := Aside0.mk H
     clear H
     go_enter Try.func18, Try.ntmps18
     try go_wp2_with (first | ((with_reducible refine gate_dst (N := 3) rfl ?_); refine box_event ?hg (N := 3) ?hd (cs := #[.int .i64 a0_0, .int .i64 a0_1]) (t := 23) ?hr ?_; (case hd => rfl); (case hg => rfl); (case hr => first | (go_simp; done) | (go_simp; rfl)); intro gb371 hg w18 hbox hb; have n0_ := Aside0.mk (below_step (Bw HB.out) hb); have n1_ := Aside0.mk (hbox); have n2_ := Aside0.mk (Gs hg (Bw HB.out)); have n3_ := Aside0.mk (Gs hg (Bw HB.out)); clear HB; have HB := n0_; have BK371 := n1_; have GW371 := n2_; have GE371 := n3_; clear n0_ n1_ n2_ n3_; clear hb hbox hg) | ((with_reducible refine gate_dst (N := 4) rfl ?_); refine box_event ?hg (N := 4) ?hd (cs := #[.int .i64 a1_0, .slice A1_1 l1_1.length c1_1]) (t := 26) ?hr ?_; (case hd => rfl); (case hg => rfl); (case hr => first | (go_simp; done) | (go_simp; rfl)); intro gb372 hg w19 hbox hb; have n0_ := Aside0.mk (blk_below (g := gb371) (o := .cells #[.int .i64 a0_0, .int .i64 a0_1] 23 (0, 0)) (Bk BK371.out) hb); have n1_ := Aside0.mk (below_step (Bw HB.out) hb); have n2_ := Aside0.mk (hbox); have n3_ := Aside0.mk (Gs hg (Bw HB.out)); have n4_ := Aside0.mk (Gs hg (Bw HB.out)); have n5_ := Aside0.mk ((by rw [hg]; exact Nat.ne_of_lt (blk_lt (g := gb371) (o := .cells #[.int .i64 a0_0, .int .i64 a0_1] 23 (0, 0)) (Bk BK371.out)) : gb371 ≠ gb372)); have n6_ := Aside0.mk ((by rw [hg]; exact Nat.ne_of_gt (blk_lt (g := gb371) (o := .cells #[.int .i64 a0_0, .int .i64 a0_1] 23 (0, 0)) (Bk BK371.out)) : gb372 ≠ gb371)); clear BK371; clear HB; have BK371 := n0_; have HB := n1_; have BK372 := n2_; have GW372 := n3_; have GE372 := n4_; have NB371_372 := n5_; have NB372_371 := n6_; clear n0_ n1_ n2_ n3_ n4_ n5_ n6_; clear hb hbox hg; have hnb20 := NB371_372.out; have hnc20 := NB372_371.out; have hcz21_0 : w19.cell? ⟨gb371, 0, none⟩ = some (.int .i64 a0_0) := (blk_cell BK371.out 0).trans rfl; have hcz21_1 : w19.cell? ⟨gb371, 1, none⟩ = some (.int .i64 a0_1) := (blk_cell BK371.out 1).trans rfl; have hfz21_0 := blk_frozen BK371.out 0; have hfz21_1 := blk_frozen BK371.out 1; have hcz22_0 : w19.cell? ⟨gb372, 0, none⟩ = some (.int .i64 a1_0) := (blk_cell BK372.out 0).trans rfl; have hcz22_1 : w19.cell? ⟨gb372, 1, none⟩ = some (.slice A1_1 l1_1.length c1_1) := (blk_cell BK372.out 1).trans rfl; have hfz22_0 := blk_frozen BK372.out 0; have hfz22_1 := blk_frozen BK372.out 1) | ((with_reducible refine gate_callee (f := 17) rfl ?_); refine goesL_ (some 26) rfl rfl Try.func17 (by kernel_rfl) rfl #[.agg #[.int .i64 a0_0, .int .i64 a0_1], .agg #[.int .i64 a1_0, .slice A1_1 l1_1.length c1_1], .slice A2 l2.length c2] rfl (by (try simp only [List.map_toArray, List.map_cons, List.map_nil]); first | done | rfl | (simp only [List.length_drop, List.length_take]; rfl)) ?_; (with_reducible refine (examboardref43_Need.calls k a0_0 a0_1 a1_0 _ _ l1_1 _ _ l2 t373 t374 _ ?side1 ?side2 ?side3 ?side4 A4.out).mono ?_); (case side1 => exact Ck (Kd.C_below HR1_1.out HB.out)); (case side2 => exact HC1_1.out); (case side3 => exact Ck (Kd.C_below HR2.out HB.out)); (case side4 => exact HC2.out); rintro e w23 ⟨rfl, hb⟩; refine ⟨_, rfl, ?_⟩; have n0_ := Aside0.mk (blk_below (g := gb371) (o := .cells #[.int .i64 a0_0, .int .i64 a0_1] 23 (0, 0)) (Bk BK371.out) hb); have n1_ := Aside0.mk (blk_below (g := gb372) (o := .cells #[.int .i64 a1_0, .slice A1_1 l1_1.length c1_1] 26 (0, 0)) (Bk BK372.out) hb); have n2_ := Aside0.mk (below_step (Bw HB.out) hb); clear BK371; clear BK372; clear HB; have BK371 := n0_; have BK372 := n1_; have HB := n2_; clear n0_ n1_ n2_; (try clear hb); (try clear hb2); (try clear hk); (try clear hi)))
     have n0_ := Aside0.mk (blk_drew BK371.out)
     have n1_ := Aside0.mk (blk_drew BK372.out)
     have n2_ := Aside0.mk (below_drew1 HB.out)
     clear BK371
     clear BK372
     clear HB
     have BK371 := n0_
     have BK372 := n1_
     have HB := n2_
     clear n0_ n1_ n2_
     have p375 : 0 ≤ (0 : Int) := (by omega)
     have q375 : 0 < (l2.length : Int) := of_decide_eq_true (by first | (with_reducible assumption) | assumption)
     obtain ⟨ad375, A375_0, c375_0, e375, hx375_0, hl375_0, hi375_0⟩ := at_L1 HR2.out 0 p375 q375
     have hw375_0 := hx375_0
     (try rw [show ((0 : Int)).toNat = 0 from rfl] at hw375_0)
     (try rw [show 0 * 1 = 0 from rfl] at hw375_0)
     (try rw [Addr.add_zero'] at hw375_0)
     cases e375
     have qi375 : (0 < l2.length) = True := eq_true (by omega)
     (try rw [show ((0 : Int)).toNat = 0 from rfl] at hx375_0)
     (try rw [Addr.add_zero'] at hx375_0)
     replace hx375_0 := (HB.out.cell (World.block_lt_of_cell? w _ hx375_0)).trans hx375_0
     have HR375_0 := Aside0.mk hi375_0
     have HC375_0 := Aside0.mk hl375_0
     clear hi375_0 hl375_0
     replace p375 := eq_true p375
     replace q375 := eq_true q375
     refine start_ (n := 10) (S := fun w' => w'.cell? ⟨gb372, 0, none⟩ = some (.int .i64 a1_0) ∧ w'.cell? ⟨gb372, 1, none⟩ = some (.slice A1_1 l1_1.length c1_1) ∧ w'.cell? ad375 = some (.slice A375_0 (rd_L1 l2 0).length c375_0)) (ds := []) #[Z,Z,Z,Z,Z,Z,Z,Z,Z,Z] (by kernel_rfl) rfl rfl ⟨(blk_cell BK372.out 0).trans rfl, (blk_cell BK372.out 1).trans rfl, ((HB.out.cell (World.block_lt_of_cell? w _ hw375_0)).trans hw375_0)⟩ (fun hHeld => ?_); refine with_tabW examboardref43_Score.tab6 examboardref43_Score.bits6 (fun HT_ HW_ => ?_)
     generalize w23.drew = w24 at BK371 BK372 HB HR375_0 hx375_0 hHeld ⊢
     refine pu (i := 1) (N := some 36) #[Z,Y,Z,Z,Z,Z,Z,Z,Z,Z] rfl rfl (any_of HT_.out (by kernel_rfl)) ?_
     refine pu (i := 2) (N := some 37) #[Z,Y,Y,Z,Z,Z,Z,Z,Z,Z] rfl rfl (any_of HT_.out (by kernel_rfl)) ?_
     refine take_ (i := 0) (N := some 35) (v := ?_) (a' := ?_) #[Y,Y,Y,Z,Z,Z,Z,Z,Z,Z] rfl rfl (take_ofW HT_.out HW_.out (by kernel_rfl)) (fun _ _ _ h => h) (Or.inl ⟨by rfl, ?_⟩) hHeld ?_ ?_
     rotate_left
     ·
      rintro w' ⟨s0, s1, s2⟩
      go_simp
      with_reducible rfl
     rotate_left
     ·
      simp only [Act.put, List.setIfInBounds_toArray, List.set_cons_zero, List.set_cons_succ, i64_w, i32_w]
      rfl
     refine take_ (i := 3) (N := some 38) (v := ?_) (a' := ?_) #[Y,Y,Y,Y,Z,Z,Z,Z,Z,Z] rfl rfl (take_ofW HT_.out HW_.out (by kernel_rfl)) (fun _ _ _ h => h) (Or.inl ⟨by rfl, ?_⟩) hHeld ?_ ?_
     rotate_left
     ·
      rintro w' ⟨s0, s1, s2⟩
      go_simp
      with_reducible rfl
     rotate_left
     ·
      simp only [Act.put, List.setIfInBounds_toArray, List.set_cons_zero, List.set_cons_succ, i64_w, i32_w]
      rfl
     refine one_ (i := 4) (N := some 39) #[true, true, true, true, true, false, false, false, false, false] rfl rfl (one_of HT_.out (by kernel_rfl)) (by decide) (fun K hK => ?_)
     refine goes_ Try.func35 (by kernel_rfl) rfl #[.agg #[.int .i64 a1_0, .slice A1_1 l1_1.length c1_1], .slice A375_0 (rd_L1 l2 0).length c375_0] (by rfl) rfl rfl (by (try simp only [List.map_toArray, List.map_cons, List.map_nil]); first | done | rfl | (simp only [List.length_drop, List.length_take]; rfl)) ?_
     with_reducible refine (examboardref41_Total.calls k a1_0 _ _ l1_1 _ _ (rd_L1 l2 0) t376 t377 _ ?side1 ?side2 ?side3 ?side4 A14.out).mono ?_
     (case side1 => exact Ck (Kd.C_below HR1_1.out HB.out))
     (case side2 => exact HC1_1.out)
     (case side3 => exact Ck (Kd.C_below HR375_0.out HB.out))
     (case side4 => exact HC375_0.out)
     rintro e w25 ⟨rfl, hb⟩
     refine ⟨_, rfl, ?_⟩
     have n0_ := Aside0.mk (blk_below (g := gb371) (o := .cells #[.int .i64 a0_0, .int .i64 a0_1] 23 (0, 0)) (Bk BK371.out) hb)
     have n1_ := Aside0.mk (blk_below (g := gb372) (o := .cells #[.int .i64 a1_0, .slice A1_1 l1_1.length c1_1] 26 (0, 0)) (Bk BK372.out) hb)
     have n2_ := Aside0.mk (below_step (Bw HB.out) hb)
     clear BK371
     clear BK372
     clear HB
     have BK371 := n0_
     have BK372 := n1_
     have HB := n2_
     clear n0_ n1_ n2_
     (try clear hb)
     (try clear hb2)
     (try clear hk)
     (try clear hi)
     refine hK.out _ _ ⟨(blk_cell BK372.out 0).trans rfl, (blk_cell BK372.out 1).trans rfl, ((HB.out.cell (World.block_lt_of_cell? w _ hw375_0)).trans hw375_0)⟩ (fun hHeld => ?_)
     clear hK K
     refine norm_ (a' := ?_) ?_ ?_
     rotate_left
     ·
      show Act.put _ (some 39) _ = _
      simp only [Act.put, List.setIfInBounds_toArray, List.set_cons_zero, List.set_cons_succ, i64_w, i32_w]
      rfl
     refine pu (i := 5) (N := some 34) #[Y,Y,Y,Y,Y,Y,Z,Z,Z,Z] rfl rfl (any_of HT_.out (by kernel_rfl)) ?_
     refine pu (i := 6) (N := some 40) #[Y,Y,Y,Y,Y,Y,Y,Z,Z,Z] rfl rfl (any_of HT_.out (by kernel_rfl)) ?_
     refine pu (i := 7) (N := some 41) #[Y,Y,Y,Y,Y,Y,Y,Y,Z,Z] rfl rfl (any_of HT_.out (by kernel_rfl)) ?_
     refine pu (i := 8) (N := some 10) #[Y,Y,Y,Y,Y,Y,Y,Y,Y,Z] rfl rfl (any_of HT_.out (by kernel_rfl)) ?_
     refine pu (i := 9) (N := some 11) #[Y,Y,Y,Y,Y,Y,Y,Y,Y,Y] rfl rfl (any_of HT_.out (by kernel_rfl)) ?_
     refine done_ (done_of HT_.out (by kernel_rfl)) ?_
     try go_wp2
     have n0_ := Aside0.mk (blk_drew BK371.out)
     have n1_ := Aside0.mk (blk_drew BK372.out)
     have n2_ := Aside0.mk (below_drew1 HB.out)
     clear BK371
     clear BK372
     clear HB
     have BK371 := n0_
     have BK372 := n1_
     have HB := n2_
     clear n0_ n1_ n2_
     have p378 : 0 ≤ (1 : Int) := (by omega)
     have q378 : 1 < (l2.length : Int) := of_decide_eq_true (by first | (with_reducible assumption) | assumption)
     obtain ⟨ad378, A378_0, c378_0, e378, hx378_0, hl378_0, hi378_0⟩ := at_L1 HR2.out 1 p378 q378
     have hw378_0 := hx378_0
     (try rw [show ((1 : Int)).toNat = 1 from rfl] at hw378_0)
     (try rw [show 1 * 1 = 1 from rfl] at hw378_0)
     (try simp only [Nat.reduceMul, Nat.reduceEqDiff, Go.Addr.add, ↓reduceIte] at hw378_0)
     obtain rfl : ad375 = ad378 := (by injection e378)
     (try simp only [show (1 : Int).toNat = 1 from rfl, Nat.reduceMul, Nat.reduceEqDiff, Go.Addr.add, ↓reduceIte] at hx378_0)
     have qi378 : (1 < l2.length) = True := eq_true (by omega)
     (try rw [show ((1 : Int)).toNat = 1 from rfl] at hx378_0)
     replace hx378_0 := (HB.out.cell (World.block_lt_of_cell? w _ hx378_0)).trans hx378_0
     have HR378_0 := Aside0.mk hi378_0
     have HC378_0 := Aside0.mk hl378_0
     clear hi378_0 hl378_0
     replace p378 := eq_true p378
     replace q378 := eq_true q378
     refine start_ (n := 10) (S := fun w' => w'.cell? ⟨gb372, 0, none⟩ = some (.int .i64 a1_0) ∧ w'.cell? ⟨gb372, 1, none⟩ = some (.slice A1_1 l1_1.length c1_1) ∧ w'.cell? ⟨ad375.block, ad375.off + 1, none⟩ = some (.slice A378_0 (rd_L1 l2 1).length c378_0)) (ds := []) #[Z,Z,Z,Z,Z,Z,Z,Z,Z,Z] (by kernel_rfl) rfl rfl ⟨(blk_cell BK372.out 0).trans rfl, (blk_cell BK372.out 1).trans rfl, ((HB.out.cell (World.block_lt_of_cell? w _ hw378_0)).trans hw378_0)⟩ (fun hHeld => ?_); refine with_tabW examboardref43_Score.tab7 examboardref43_Score.bits7 (fun HT_ HW_ => ?_)
     generalize w25.drew = w26 at BK371 BK372 HB HR378_0 hx378_0 hHeld ⊢
     refine pu (i := 1) (N := some 44) #[Z,Y,Z,Z,Z,Z,Z,Z,Z,Z] rfl rfl (any_of HT_.out (by kernel_rfl)) ?_
     refine pu (i := 2) (N := some 45) #[Z,Y,Y,Z,Z,Z,Z,Z,Z,Z] rfl rfl (any_of HT_.out (by kernel_rfl)) ?_
     refine take_ (i := 0) (N := some 43) (v := ?_) (a' := ?_) #[Y,Y,Y,Z,Z,Z,Z,Z,Z,Z] rfl rfl (take_ofW HT_.out HW_.out (by kernel_rfl)) (fun _ _ _ h => h) (Or.inl ⟨by rfl, ?_⟩) hHeld ?_ ?_
     rotate_left
     ·
      rintro w' ⟨s0, s1, s2⟩
      go_simp
      with_reducible rfl
     rotate_left
     ·
      simp only [Act.put, List.setIfInBounds_toArray, List.set_cons_zero, List.set_cons_succ, i64_w, i32_w]
      rfl
     refine take_ (i := 3) (N := some 46) (v := ?_) (a' := ?_) #[Y,Y,Y,Y,Z,Z,Z,Z,Z,Z] rfl rfl (take_ofW HT_.out HW_.out (by kernel_rfl)) (fun _ _ _ h => h) (Or.inl ⟨by rfl, ?_⟩) hHeld ?_ ?_
     rotate_left
     ·
      rintro w' ⟨s0, s1, s2⟩
      go_simp
      with_reducible rfl
     rotate_left
     ·
      simp only [Act.put, List.setIfInBounds_toArray, List.set_cons_zero, List.set_cons_succ, i64_w, i32_w]
      rfl
     refine one_ (i := 4) (N := some 47) #[true, true, true, true, true, false, false, false, false, false] rfl rfl (one_of HT_.out (by kernel_rfl)) (by decide) (fun K hK => ?_)
     refine goes_ Try.func35 (by kernel_rfl) rfl #[.agg #[.int .i64 a1_0, .slice A1_1 l1_1.length c1_1], .slice A378_0 (rd_L1 l2 1).length c378_0] (by rfl) rfl rfl (by (try simp only [List.map_toArray, List.map_cons, List.map_nil]); first | done | rfl | (simp only [List.length_drop, List.length_take]; rfl)) ?_
     with_reducible refine (examboardref41_Total.calls k a1_0 _ _ l1_1 _ _ (rd_L1 l2 1) t379 t380 _ ?side1 ?side2 ?side3 ?side4 A16.out).mono ?_
     (case side1 => exact Ck (Kd.C_below HR1_1.out HB.out))
     (case side2 => exact HC1_1.out)
     (case side3 => exact Ck (Kd.C_below HR378_0.out HB.out))
     (case side4 => exact HC378_0.out)
     rintro e w27 ⟨rfl, hb⟩
     refine ⟨_, rfl, ?_⟩
     have n0_ := Aside0.mk (blk_below (g := gb371) (o := .cells #[.int .i64 a0_0, .int .i64 a0_1] 23 (0, 0)) (Bk BK371.out) hb)
     have n1_ := Aside0.mk (blk_below (g := gb372) (o := .cells #[.int .i64 a1_0, .slice A1_1 l1_1.length c1_1] 26 (0, 0)) (Bk BK372.out) hb)
     have n2_ := Aside0.mk (below_step (Bw HB.out) hb)
     clear BK371
     clear BK372
     clear HB
     have BK371 := n0_
     have BK372 := n1_
     have HB := n2_
     clear n0_ n1_ n2_
     (try clear hb)
     (try clear hb2)
     (try clear hk)
     (try clear hi)
     refine hK.out _ _ ⟨(blk_cell BK372.out 0).trans rfl, (blk_cell BK372.out 1).trans rfl, ((HB.out.cell (World.block_lt_of_cell? w _ hw378_0)).trans hw378_0)⟩ (fun hHeld => ?_)
     clear hK K
     refine norm_ (a' := ?_) ?_ ?_
     rotate_left
     ·
      show Act.put _ (some 47) _ = _
      simp only [Act.put, List.setIfInBounds_toArray, List.set_cons_zero, List.set_cons_succ, i64_w, i32_w]
      rfl
     refine pu (i := 5) (N := some 42) #[Y,Y,Y,Y,Y,Y,Z,Z,Z,Z] rfl rfl (any_of HT_.out (by kernel_rfl)) ?_
     refine pu (i := 6) (N := some 48) #[Y,Y,Y,Y,Y,Y,Y,Z,Z,Z] rfl rfl (any_of HT_.out (by kernel_rfl)) ?_
     refine pu (i := 7) (N := some 49) #[Y,Y,Y,Y,Y,Y,Y,Y,Z,Z] rfl rfl (any_of HT_.out (by kernel_rfl)) ?_
     refine pu (i := 8) (N := some 12) #[Y,Y,Y,Y,Y,Y,Y,Y,Y,Z] rfl rfl (any_of HT_.out (by kernel_rfl)) ?_
     refine pu (i := 9) (N := some 13) #[Y,Y,Y,Y,Y,Y,Y,Y,Y,Y] rfl rfl (any_of HT_.out (by kernel_rfl)) ?_
     refine done_ (done_of HT_.out (by kernel_rfl)) ?_
     go_upto_region 8 with (fail)
     go_cut [52] (fun v52 wc => ∃ (kq : Nat) (x52_16 : Bool), v52 = .bool x52_16 ∧ Aside0 (examboardref43_Score.j0 kq l2 t376 t379 x52_16 a0_0 a0_1 a1_0 l1_1 = some (r1, r2)) ∧ Aside0 (kq ≤ k) ∧ Aside0 (wc.heap[gb371]? = some (.cells #[.int .i64 a0_0, .int .i64 a0_1] 23 (0, 0))) ∧ Aside0 (wc.heap[gb372]? = some (.cells #[.int .i64 a1_0, (.slice A1_1 l1_1.length c1_1)] 26 (0, 0))) ∧ Aside0 (Below w.heap.size w wc))
     case first =>
      have H := HC17.out
      clear HC17
      have H' := Aside0.mk H
      clear H
      go_wp2
      go_meet
      case rel => exact ⟨_, (((l2.length : Int) == 2)), (by first | rfl | (simp; done) | (simp [*]; done)), H', ⟨by first | omega | exact Nat.le_refl _⟩, ⟨Bk BK371.out⟩, ⟨Bk BK372.out⟩, ⟨Bw HB.out⟩⟩
     case rest =>
      clear HC17
      (try clear c1); (try clear c2); (try clear p2); (try clear c3); (try clear p3); (try clear q3); (try clear hx3); (try clear qi3); (try clear c5); (try clear c5b0); (try clear c5b1); (try clear c6); (try clear c6b0); (try clear c9); (try clear c13); (try clear c13b0); (try clear c13b1); (try clear c15); (try clear c15b0); (try clear c15b1); (try clear c17); (try clear c18); (try clear c20); (try clear hcz10_0); (try clear hcz10_1); (try clear hcz11_0); (try clear hcz11_1); (try clear hcz21_0); (try clear hcz21_1); (try clear hcz22_0); (try clear hcz22_1); (try clear hfz10_0); (try clear hfz10_1); (try clear hfz11_0); (try clear hfz11_1); (try clear hfz21_0); (try clear hfz21_1); (try clear hfz22_0); (try clear hfz22_1); (try clear hx375_0); (try clear hx378_0); (try clear p375); (try clear p378); (try clear q375); (try clear q378)
      obtain ⟨kq, x52_16, rfl, HA, HJ16, BK371, BK372, HB⟩ := hcut
      cases kq with
      | zero => exact absurd HA.out (by simp [examboardref43_Score.j0])
      | succ kj16 =>
       have H := HA.out
       clear HA
       simp only [examboardref43_Score.j0] at H
       by_cases c28 : x52_16 = true
       ·
        subst c28
        have H1 : (some (wrap64 (t376 + t379), 0)) = some (r1, r2) := by rw [if_pos rfl] at H; exact H
        clear H
        have H := H1
        clear H1
        simp only [Option.some.injEq, Prod.mk.injEq] at H
        obtain ⟨rfl, rfl⟩ := H
        go_wp2
        go_ret2
        exact ⟨Es, Bw HB.out⟩
       ·
        replace c28 := Bool.eq_false_iff.mpr c28
        subst c28
        have H1 : (if 0 < (l2.length : Int) then (if 1 < (l2.length : Int) then ((examboardref43_Agree.f kj16 a0_0 a0_1 a1_0 l1_1 (rd_L1 l2 0) (rd_L1 l2 1)).bind fun bt383 => (if bt383.1 = true then (some (0, 21)) else (if 2 < (l2.length : Int) then ((examboardref41_Total.f kj16 a1_0 l1_1 (rd_L1 l2 2)).bind fun bt386 => (examboardref43_Score.j1 kj16 l2 t376 t379 bt386.1 a0_1 (a0_1 == 1) a1_0 l1_1)) else (none)))) else (none)) else (none)) = some (r1, r2) := by rw [if_neg (show ¬ (false = true) by decide)] at H; exact H
        clear H
        have H := H1
        clear H1
        by_cases c29 : 0 < (l2.length : Int)
        ·
         rw [if_pos c29] at H
         have c29b0 : decide (0 < (l2.length : Int)) = true := decide_eq_true c29
         have c29b1 : decide (0 < l2.length) = true := decide_eq_true (by omega)
         clear c29
         by_cases c30 : 1 < (l2.length : Int)
         ·
          rw [if_pos c30] at H
          have c30b0 : decide (1 < (l2.length : Int)) = true := decide_eq_true c30
          have c30b1 : decide (1 < l2.length) = true := decide_eq_true (by omega)
          clear c30
          replace H := Option.bind_eq_some_iff.mp H
          obtain ⟨⟨t383, t384⟩, A310, H⟩ := H
          replace H : (if t383 = true then (some (0, 21)) else (if 2 < (l2.length : Int) then ((examboardref41_Total.f kj16 a1_0 l1_1 (rd_L1 l2 2)).bind fun bt386 => (examboardref43_Score.j1 kj16 l2 t376 t379 bt386.1 a0_1 (a0_1 == 1) a1_0 l1_1)) else (none))) = some (r1, r2) := H
          have A31 := Aside0.mk A310
          clear A310
          by_cases c32 : t383 = true
          ·
           subst c32
           have H1 : (some (0, 21)) = some (r1, r2) := by rw [if_pos rfl] at H; exact H
           clear H
           have H := H1
           clear H1
           simp only [Option.some.injEq, Prod.mk.injEq] at H
           obtain ⟨rfl, rfl⟩ := H
           try go_wp2
           have n0_ := Aside0.mk (blk_drew BK371.out)
           have n1_ := Aside0.mk (blk_drew BK372.out)
           have n2_ := Aside0.mk (below_drew1 HB.out)
           clear BK371
           clear BK372
           clear HB
           have BK371 := n0_
           have BK372 := n1_
           have HB := n2_
           clear n0_ n1_ n2_
           have p381 : 0 ≤ (0 : Int) := (by omega)
           have q381 : 0 < (l2.length : Int) := of_decide_eq_true (by first | (with_reducible assumption) | assumption)
           obtain ⟨ad381, A381_0, c381_0, e381, hx381_0, hl381_0, hi381_0⟩ := at_L1 HR2.out 0 p381 q381
           have hw381_0 := hx381_0
           (try rw [show ((0 : Int)).toNat = 0 from rfl] at hw381_0)
           (try rw [show 0 * 1 = 0 from rfl] at hw381_0)
           (try rw [Addr.add_zero'] at hw381_0)
           obtain rfl : ad375 = ad381 := (by injection e381)
           have qi381 : (0 < l2.length) = True := eq_true (by omega)
           (try rw [show ((0 : Int)).toNat = 0 from rfl] at hx381_0)
           (try rw [Addr.add_zero'] at hx381_0)
           replace hx381_0 := (HB.out.cell (World.block_lt_of_cell? w _ hx381_0)).trans hx381_0
           have HR381_0 := Aside0.mk hi381_0
           have HC381_0 := Aside0.mk hl381_0
           clear hi381_0 hl381_0
           replace p381 := eq_true p381
           replace q381 := eq_true q381
           have p382 : 0 ≤ (1 : Int) := (by omega)
           have q382 : 1 < (l2.length : Int) := of_decide_eq_true (by first | (with_reducible assumption) | assumption)
           obtain ⟨ad382, A382_0, c382_0, e382, hx382_0, hl382_0, hi382_0⟩ := at_L1 HR2.out 1 p382 q382
           have hw382_0 := hx382_0
           (try rw [show ((1 : Int)).toNat = 1 from rfl] at hw382_0)
           (try rw [show 1 * 1 = 1 from rfl] at hw382_0)
           (try simp only [Nat.reduceMul, Nat.reduceEqDiff, Go.Addr.add, ↓reduceIte] at hw382_0)
           obtain rfl : ad375 = ad382 := (by injection e382)
           (try simp only [show (1 : Int).toNat = 1 from rfl, Nat.reduceMul, Nat.reduceEqDiff, Go.Addr.add, ↓reduceIte] at hx382_0)
           have qi382 : (1 < l2.length) = True := eq_true (by omega)
           (try rw [show ((1 : Int)).toNat = 1 from rfl] at hx382_0)
           replace hx382_0 := (HB.out.cell (World.block_lt_of_cell? w _ hx382_0)).trans hx382_0
           have HR382_0 := Aside0.mk hi382_0
           have HC382_0 := Aside0.mk hl382_0
           clear hi382_0 hl382_0
           replace p382 := eq_true p382
           replace q382 := eq_true q382
           refine start_ (n := 14) (S := fun w' => w'.cell? ⟨gb371, 0, none⟩ = some (.int .i64 a0_0) ∧ w'.cell? ⟨gb371, 1, none⟩ = some (.int .i64 a0_1) ∧ w'.cell? ⟨gb372, 0, none⟩ = some (.int .i64 a1_0) ∧ w'.cell? ⟨gb372, 1, none⟩ = some (.slice A1_1 l1_1.length c1_1) ∧ w'.cell? ad375 = some (.slice A381_0 (rd_L1 l2 0).length c381_0) ∧ w'.cell? ⟨ad375.block, ad375.off + 1, none⟩ = some (.slice A382_0 (rd_L1 l2 1).length c382_0)) (ds := []) #[Z,Z,Z,Z,Z,Z,Z,Z,Z,Z,Z,Z,Z,Z] (by kernel_rfl) rfl rfl ⟨(blk_cell BK371.out 0).trans rfl, (blk_cell BK371.out 1).trans rfl, (blk_cell BK372.out 0).trans rfl, (blk_cell BK372.out 1).trans rfl, ((HB.out.cell (World.block_lt_of_cell? w _ hw381_0)).trans hw381_0), ((HB.out.cell (World.block_lt_of_cell? w _ hw382_0)).trans hw382_0)⟩ (fun hHeld => ?_); refine with_tabW examboardref43_Score.tab10 examboardref43_Score.bits10 (fun HT_ HW_ => ?_)
           generalize wc.drew = w33 at BK371 BK372 HB HR381_0 HR382_0 hx381_0 hx382_0 hHeld ⊢
           refine pu (i := 2) (N := some 59) #[Z,Z,Y,Z,Z,Z,Z,Z,Z,Z,Z,Z,Z,Z] rfl rfl (any_of HT_.out (by kernel_rfl)) ?_
           refine pu (i := 3) (N := some 60) #[Z,Z,Y,Y,Z,Z,Z,Z,Z,Z,Z,Z,Z,Z] rfl rfl (any_of HT_.out (by kernel_rfl)) ?_
           refine pu (i := 5) (N := some 62) #[Z,Z,Y,Y,Z,Y,Z,Z,Z,Z,Z,Z,Z,Z] rfl rfl (any_of HT_.out (by kernel_rfl)) ?_
           refine pu (i := 6) (N := some 63) #[Z,Z,Y,Y,Z,Y,Y,Z,Z,Z,Z,Z,Z,Z] rfl rfl (any_of HT_.out (by kernel_rfl)) ?_
           refine take_ (i := 0) (N := some 57) (v := ?_) (a' := ?_) #[Y,Z,Y,Y,Z,Y,Y,Z,Z,Z,Z,Z,Z,Z] rfl rfl (take_ofW HT_.out HW_.out (by kernel_rfl)) (fun _ _ _ h => h) (Or.inl ⟨by rfl, ?_⟩) hHeld ?_ ?_
           rotate_left
           ·
            rintro w' ⟨s0, s1, s2, s3, s4, s5⟩
            go_simp
            with_reducible rfl
           rotate_left
           ·
            simp only [Act.put, List.setIfInBounds_toArray, List.set_cons_zero, List.set_cons_succ, i64_w, i32_w]
            rfl
           refine take_ (i := 1) (N := some 58) (v := ?_) (a' := ?_) #[Y,Y,Y,Y,Z,Y,Y,Z,Z,Z,Z,Z,Z,Z] rfl rfl (take_ofW HT_.out HW_.out (by kernel_rfl)) (fun _ _ _ h => h) (Or.inl ⟨by rfl, ?_⟩) hHeld ?_ ?_
           rotate_left
           ·
            rintro w' ⟨s0, s1, s2, s3, s4, s5⟩
            go_simp
            with_reducible rfl
           rotate_left
           ·
            simp only [Act.put, List.setIfInBounds_toArray, List.set_cons_zero, List.set_cons_succ, i64_w, i32_w]
            rfl
           refine take_ (i := 4) (N := some 61) (v := ?_) (a' := ?_) #[Y,Y,Y,Y,Y,Y,Y,Z,Z,Z,Z,Z,Z,Z] rfl rfl (take_ofW HT_.out HW_.out (by kernel_rfl)) (fun _ _ _ h => h) (Or.inl ⟨by rfl, ?_⟩) hHeld ?_ ?_
           rotate_left
           ·
            rintro w' ⟨s0, s1, s2, s3, s4, s5⟩
            go_simp
            with_reducible rfl
           rotate_left
           ·
            simp only [Act.put, List.setIfInBounds_toArray, List.set_cons_zero, List.set_cons_succ, i64_w, i32_w]
            rfl
           refine take_ (i := 7) (N := some 64) (v := ?_) (a' := ?_) #[Y,Y,Y,Y,Y,Y,Y,Y,Z,Z,Z,Z,Z,Z] rfl rfl (take_ofW HT_.out HW_.out (by kernel_rfl)) (fun _ _ _ h => h) (Or.inl ⟨by rfl, ?_⟩) hHeld ?_ ?_
           rotate_left
           ·
            rintro w' ⟨s0, s1, s2, s3, s4, s5⟩
            go_simp
            with_reducible rfl
           rotate_left
           ·
            simp only [Act.put, List.setIfInBounds_toArray, List.set_cons_zero, List.set_cons_succ, i64_w, i32_w]
            rfl
           refine one_ (i := 8) (N := some 65) #[true, true, true, true, true, true, true, true, true, false, false, false, false, false] rfl rfl (one_of HT_.out (by kernel_rfl)) (by decide) (fun K hK => ?_)
           refine goes_ Try.func21 (by kernel_rfl) rfl #[.agg #[.int .i64 a0_0, .int .i64 a0_1], .agg #[.int .i64 a1_0, .slice A1_1 l1_1.length c1_1], .slice A381_0 (rd_L1 l2 0).length c381_0, .slice A382_0 (rd_L1 l2 1).length c382_0] (by rfl) rfl rfl (by (try simp only [List.map_toArray, List.map_cons, List.map_nil]); first | done | rfl | (simp only [List.length_drop, List.length_take]; rfl)) ?_
           with_reducible refine (examboardref43_Agree.calls kj16 a0_0 a0_1 a1_0 _ _ l1_1 _ _ (rd_L1 l2 0) _ _ (rd_L1 l2 1) true t384 _ ?side1 ?side2 ?side3 ?side4 ?side5 ?side6 A31.out).mono ?_
           (case side1 => exact Ck (Kd.C_below HR1_1.out HB.out))
           (case side2 => exact HC1_1.out)
           (case side3 => exact Ck (Kd.C_below HR381_0.out HB.out))
           (case side4 => exact HC381_0.out)
           (case side5 => exact Ck (Kd.C_below HR382_0.out HB.out))
           (case side6 => exact HC382_0.out)
           rintro e w34 ⟨rfl, hb⟩
           refine ⟨_, rfl, ?_⟩
           have n0_ := Aside0.mk (blk_below (g := gb371) (o := .cells #[.int .i64 a0_0, .int .i64 a0_1] 23 (0, 0)) (Bk BK371.out) hb)
           have n1_ := Aside0.mk (blk_below (g := gb372) (o := .cells #[.int .i64 a1_0, .slice A1_1 l1_1.length c1_1] 26 (0, 0)) (Bk BK372.out) hb)
           have n2_ := Aside0.mk (below_step (Bw HB.out) hb)
           clear BK371
           clear BK372
           clear HB
           have BK371 := n0_
           have BK372 := n1_
           have HB := n2_
           clear n0_ n1_ n2_
           (try clear hb)
           (try clear hb2)
           (try clear hk)
           (try clear hi)
           refine hK.out _ _ ⟨(blk_cell BK371.out 0).trans rfl, (blk_cell BK371.out 1).trans rfl, (blk_cell BK372.out 0).trans rfl, (blk_cell BK372.out 1).trans rfl, ((HB.out.cell (World.block_lt_of_cell? w _ hw381_0)).trans hw381_0), ((HB.out.cell (World.block_lt_of_cell? w _ hw382_0)).trans hw382_0)⟩ (fun hHeld => ?_)
           clear hK K
           refine norm_ (a' := ?_) ?_ ?_
           rotate_left
           ·
            show Act.put _ (some 65) _ = _
            simp only [Act.put, List.setIfInBounds_toArray, List.set_cons_zero, List.set_cons_succ, i64_w, i32_w]
            rfl
           refine pu (i := 9) (N := some 56) #[Y,Y,Y,Y,Y,Y,Y,Y,Y,Y,Z,Z,Z,Z] rfl rfl (any_of HT_.out (by kernel_rfl)) ?_
           refine pu (i := 10) (N := some 66) #[Y,Y,Y,Y,Y,Y,Y,Y,Y,Y,Y,Z,Z,Z] rfl rfl (any_of HT_.out (by kernel_rfl)) ?_
           refine pu (i := 11) (N := some 67) #[Y,Y,Y,Y,Y,Y,Y,Y,Y,Y,Y,Y,Z,Z] rfl rfl (any_of HT_.out (by kernel_rfl)) ?_
           refine pu (i := 12) (N := some 14) #[Y,Y,Y,Y,Y,Y,Y,Y,Y,Y,Y,Y,Y,Z] rfl rfl (any_of HT_.out (by kernel_rfl)) ?_
           refine pu (i := 13) (N := some 15) #[Y,Y,Y,Y,Y,Y,Y,Y,Y,Y,Y,Y,Y,Y] rfl rfl (any_of HT_.out (by kernel_rfl)) ?_
           refine done_ (done_of HT_.out (by kernel_rfl)) ?_
           try go_wp2
           go_ret2
           exact ⟨Es, Bw HB.out⟩
          ·
           replace c32 := Bool.eq_false_iff.mpr c32
           subst c32
           have H1 : (if 2 < (l2.length : Int) then ((examboardref41_Total.f kj16 a1_0 l1_1 (rd_L1 l2 2)).bind fun bt386 => (examboardref43_Score.j1 kj16 l2 t376 t379 bt386.1 a0_1 (a0_1 == 1) a1_0 l1_1)) else (none)) = some (r1, r2) := by rw [if_neg (show ¬ (false = true) by decide)] at H; exact H
           clear H
           have H := H1
           clear H1
           by_cases c35 : 2 < (l2.length : Int)
           ·
            rw [if_pos c35] at H
            have c35b0 : decide (2 < (l2.length : Int)) = true := decide_eq_true c35
            have c35b1 : decide (2 < l2.length) = true := decide_eq_true (by omega)
            clear c35
            replace H := Option.bind_eq_some_iff.mp H
            obtain ⟨⟨t386, t387⟩, A360, H⟩ := H
            replace H : (examboardref43_Score.j1 kj16 l2 t376 t379 t386 a0_1 (a0_1 == 1) a1_0 l1_1) = some (r1, r2) := H
            have A36 := Aside0.mk A360
            clear A360
            have HC37 := Aside0.mk H
            clear H
            try go_wp2
            have n0_ := Aside0.mk (blk_drew BK371.out)
            have n1_ := Aside0.mk (blk_drew BK372.out)
            have n2_ := Aside0.mk (below_drew1 HB.out)
            clear BK371
            clear BK372
            clear HB
            have BK371 := n0_
            have BK372 := n1_
            have HB := n2_
            clear n0_ n1_ n2_
            have p381 : 0 ≤ (0 : Int) := (by omega)
            have q381 : 0 < (l2.length : Int) := of_decide_eq_true (by first | (with_reducible assumption) | assumption)
            obtain ⟨ad381, A381_0, c381_0, e381, hx381_0, hl381_0, hi381_0⟩ := at_L1 HR2.out 0 p381 q381
            have hw381_0 := hx381_0
            (try rw [show ((0 : Int)).toNat = 0 from rfl] at hw381_0)
            (try rw [show 0 * 1 = 0 from rfl] at hw381_0)
            (try rw [Addr.add_zero'] at hw381_0)
            obtain rfl : ad375 = ad381 := (by injection e381)
            have qi381 : (0 < l2.length) = True := eq_true (by omega)
            (try rw [show ((0 : Int)).toNat = 0 from rfl] at hx381_0)
            (try rw [Addr.add_zero'] at hx381_0)
            replace hx381_0 := (HB.out.cell (World.block_lt_of_cell? w _ hx381_0)).trans hx381_0
            have HR381_0 := Aside0.mk hi381_0
            have HC381_0 := Aside0.mk hl381_0
            clear hi381_0 hl381_0
            replace p381 := eq_true p381
            replace q381 := eq_true q381
            have p382 : 0 ≤ (1 : Int) := (by omega)
            have q382 : 1 < (l2.length : Int) := of_decide_eq_true (by first | (with_reducible assumption) | assumption)
            obtain ⟨ad382, A382_0, c382_0, e382, hx382_0, hl382_0, hi382_0⟩ := at_L1 HR2.out 1 p382 q382
            have hw382_0 := hx382_0
            (try rw [show ((1 : Int)).toNat = 1 from rfl] at hw382_0)
            (try rw [show 1 * 1 = 1 from rfl] at hw382_0)
            (try simp only [Nat.reduceMul, Nat.reduceEqDiff, Go.Addr.add, ↓reduceIte] at hw382_0)
            obtain rfl : ad375 = ad382 := (by injection e382)
            (try simp only [show (1 : Int).toNat = 1 from rfl, Nat.reduceMul, Nat.reduceEqDiff, Go.Addr.add, ↓reduceIte] at hx382_0)
            have qi382 : (1 < l2.length) = True := eq_true (by omega)
            (try rw [show ((1 : Int)).toNat = 1 from rfl] at hx382_0)
            replace hx382_0 := (HB.out.cell (World.block_lt_of_cell? w _ hx382_0)).trans hx382_0
            have HR382_0 := Aside0.mk hi382_0
            have HC382_0 := Aside0.mk hl382_0
            clear hi382_0 hl382_0
            replace p382 := eq_true p382
            replace q382 := eq_true q382
            refine start_ (n := 14) (S := fun w' => w'.cell? ⟨gb371, 0, none⟩ = some (.int .i64 a0_0) ∧ w'.cell? ⟨gb371, 1, none⟩ = some (.int .i64 a0_1) ∧ w'.cell? ⟨gb372, 0, none⟩ = some (.int .i64 a1_0) ∧ w'.cell? ⟨gb372, 1, none⟩ = some (.slice A1_1 l1_1.length c1_1) ∧ w'.cell? ad375 = some (.slice A381_0 (rd_L1 l2 0).length c381_0) ∧ w'.cell? ⟨ad375.block, ad375.off + 1, none⟩ = some (.slice A382_0 (rd_L1 l2 1).length c382_0)) (ds := []) #[Z,Z,Z,Z,Z,Z,Z,Z,Z,Z,Z,Z,Z,Z] (by kernel_rfl) rfl rfl ⟨(blk_cell BK371.out 0).trans rfl, (blk_cell BK371.out 1).trans rfl, (blk_cell BK372.out 0).trans rfl, (blk_cell BK372.out 1).trans rfl, ((HB.out.cell (World.block_lt_of_cell? w _ hw381_0)).trans hw381_0), ((HB.out.cell (World.block_lt_of_cell? w _ hw382_0)).trans hw382_0)⟩ (fun hHeld => ?_); refine with_tabW examboardref43_Score.tab10 examboardref43_Score.bits10 (fun HT_ HW_ => ?_)
            generalize wc.drew = w38 at BK371 BK372 HB HR381_0 HR382_0 hx381_0 hx382_0 hHeld ⊢
            refine pu (i := 2) (N := some 59) #[Z,Z,Y,Z,Z,Z,Z,Z,Z,Z,Z,Z,Z,Z] rfl rfl (any_of HT_.out (by kernel_rfl)) ?_
            refine pu (i := 3) (N := some 60) #[Z,Z,Y,Y,Z,Z,Z,Z,Z,Z,Z,Z,Z,Z] rfl rfl (any_of HT_.out (by kernel_rfl)) ?_
            refine pu (i := 5) (N := some 62) #[Z,Z,Y,Y,Z,Y,Z,Z,Z,Z,Z,Z,Z,Z] rfl rfl (any_of HT_.out (by kernel_rfl)) ?_
            refine pu (i := 6) (N := some 63) #[Z,Z,Y,Y,Z,Y,Y,Z,Z,Z,Z,Z,Z,Z] rfl rfl (any_of HT_.out (by kernel_rfl)) ?_
            refine take_ (i := 0) (N := some 57) (v := ?_) (a' := ?_) #[Y,Z,Y,Y,Z,Y,Y,Z,Z,Z,Z,Z,Z,Z] rfl rfl (take_ofW HT_.out HW_.out (by kernel_rfl)) (fun _ _ _ h => h) (Or.inl ⟨by rfl, ?_⟩) hHeld ?_ ?_
            rotate_left
            ·
             rintro w' ⟨s0, s1, s2, s3, s4, s5⟩
             go_simp
             with_reducible rfl
            rotate_left
            ·
             simp only [Act.put, List.setIfInBounds_toArray, List.set_cons_zero, List.set_cons_succ, i64_w, i32_w]
             rfl
            refine take_ (i := 1) (N := some 58) (v := ?_) (a' := ?_) #[Y,Y,Y,Y,Z,Y,Y,Z,Z,Z,Z,Z,Z,Z] rfl rfl (take_ofW HT_.out HW_.out (by kernel_rfl)) (fun _ _ _ h => h) (Or.inl ⟨by rfl, ?_⟩) hHeld ?_ ?_
            rotate_left
            ·
             rintro w' ⟨s0, s1, s2, s3, s4, s5⟩
             go_simp
             with_reducible rfl
            rotate_left
            ·
             simp only [Act.put, List.setIfInBounds_toArray, List.set_cons_zero, List.set_cons_succ, i64_w, i32_w]
             rfl
            refine take_ (i := 4) (N := some 61) (v := ?_) (a' := ?_) #[Y,Y,Y,Y,Y,Y,Y,Z,Z,Z,Z,Z,Z,Z] rfl rfl (take_ofW HT_.out HW_.out (by kernel_rfl)) (fun _ _ _ h => h) (Or.inl ⟨by rfl, ?_⟩) hHeld ?_ ?_
            rotate_left
            ·
             rintro w' ⟨s0, s1, s2, s3, s4, s5⟩
             go_simp
             with_reducible rfl
            rotate_left
            ·
             simp only [Act.put, List.setIfInBounds_toArray, List.set_cons_zero, List.set_cons_succ, i64_w, i32_w]
             rfl
            refine take_ (i := 7) (N := some 64) (v := ?_) (a' := ?_) #[Y,Y,Y,Y,Y,Y,Y,Y,Z,Z,Z,Z,Z,Z] rfl rfl (take_ofW HT_.out HW_.out (by kernel_rfl)) (fun _ _ _ h => h) (Or.inl ⟨by rfl, ?_⟩) hHeld ?_ ?_
            rotate_left
            ·
             rintro w' ⟨s0, s1, s2, s3, s4, s5⟩
             go_simp
             with_reducible rfl
            rotate_left
            ·
             simp only [Act.put, List.setIfInBounds_toArray, List.set_cons_zero, List.set_cons_succ, i64_w, i32_w]
             rfl
            refine one_ (i := 8) (N := some 65) #[true, true, true, true, true, true, true, true, true, false, false, false, false, false] rfl rfl (one_of HT_.out (by kernel_rfl)) (by decide) (fun K hK => ?_)
            refine goes_ Try.func21 (by kernel_rfl) rfl #[.agg #[.int .i64 a0_0, .int .i64 a0_1], .agg #[.int .i64 a1_0, .slice A1_1 l1_1.length c1_1], .slice A381_0 (rd_L1 l2 0).length c381_0, .slice A382_0 (rd_L1 l2 1).length c382_0] (by rfl) rfl rfl (by (try simp only [List.map_toArray, List.map_cons, List.map_nil]); first | done | rfl | (simp only [List.length_drop, List.length_take]; rfl)) ?_
            with_reducible refine (examboardref43_Agree.calls kj16 a0_0 a0_1 a1_0 _ _ l1_1 _ _ (rd_L1 l2 0) _ _ (rd_L1 l2 1) false t384 _ ?side1 ?side2 ?side3 ?side4 ?side5 ?side6 A31.out).mono ?_
            (case side1 => exact Ck (Kd.C_below HR1_1.out HB.out))
            (case side2 => exact HC1_1.out)
            (case side3 => exact Ck (Kd.C_below HR381_0.out HB.out))
            (case side4 => exact HC381_0.out)
            (case side5 => exact Ck (Kd.C_below HR382_0.out HB.out))
            (case side6 => exact HC382_0.out)
            rintro e w39 ⟨rfl, hb⟩
            refine ⟨_, rfl, ?_⟩
            have n0_ := Aside0.mk (blk_below (g := gb371) (o := .cells #[.int .i64 a0_0, .int .i64 a0_1] 23 (0, 0)) (Bk BK371.out) hb)
            have n1_ := Aside0.mk (blk_below (g := gb372) (o := .cells #[.int .i64 a1_0, .slice A1_1 l1_1.length c1_1] 26 (0, 0)) (Bk BK372.out) hb)
            have n2_ := Aside0.mk (below_step (Bw HB.out) hb)
            clear BK371
            clear BK372
            clear HB
            have BK371 := n0_
            have BK372 := n1_
            have HB := n2_
            clear n0_ n1_ n2_
            (try clear hb)
            (try clear hb2)
            (try clear hk)
            (try clear hi)
            refine hK.out _ _ ⟨(blk_cell BK371.out 0).trans rfl, (blk_cell BK371.out 1).trans rfl, (blk_cell BK372.out 0).trans rfl, (blk_cell BK372.out 1).trans rfl, ((HB.out.cell (World.block_lt_of_cell? w _ hw381_0)).trans hw381_0), ((HB.out.cell (World.block_lt_of_cell? w _ hw382_0)).trans hw382_0)⟩ (fun hHeld => ?_)
            clear hK K
            refine norm_ (a' := ?_) ?_ ?_
            rotate_left
            ·
             show Act.put _ (some 65) _ = _
             simp only [Act.put, List.setIfInBounds_toArray, List.set_cons_zero, List.set_cons_succ, i64_w, i32_w]
             rfl
            refine pu (i := 9) (N := some 56) #[Y,Y,Y,Y,Y,Y,Y,Y,Y,Y,Z,Z,Z,Z] rfl rfl (any_of HT_.out (by kernel_rfl)) ?_
            refine pu (i := 10) (N := some 66) #[Y,Y,Y,Y,Y,Y,Y,Y,Y,Y,Y,Z,Z,Z] rfl rfl (any_of HT_.out (by kernel_rfl)) ?_
            refine pu (i := 11) (N := some 67) #[Y,Y,Y,Y,Y,Y,Y,Y,Y,Y,Y,Y,Z,Z] rfl rfl (any_of HT_.out (by kernel_rfl)) ?_
            refine pu (i := 12) (N := some 14) #[Y,Y,Y,Y,Y,Y,Y,Y,Y,Y,Y,Y,Y,Z] rfl rfl (any_of HT_.out (by kernel_rfl)) ?_
            refine pu (i := 13) (N := some 15) #[Y,Y,Y,Y,Y,Y,Y,Y,Y,Y,Y,Y,Y,Y] rfl rfl (any_of HT_.out (by kernel_rfl)) ?_
            refine done_ (done_of HT_.out (by kernel_rfl)) ?_
            try go_wp2
            have n0_ := Aside0.mk (blk_drew BK371.out)
            have n1_ := Aside0.mk (blk_drew BK372.out)
            have n2_ := Aside0.mk (below_drew1 HB.out)
            clear BK371
            clear BK372
            clear HB
            have BK371 := n0_
            have BK372 := n1_
            have HB := n2_
            clear n0_ n1_ n2_
            have p385 : 0 ≤ (2 : Int) := (by omega)
            have q385 : 2 < (l2.length : Int) := of_decide_eq_true (by first | (with_reducible assumption) | assumption)
            obtain ⟨ad385, A385_0, c385_0, e385, hx385_0, hl385_0, hi385_0⟩ := at_L1 HR2.out 2 p385 q385
            have hw385_0 := hx385_0
            (try rw [show ((2 : Int)).toNat = 2 from rfl] at hw385_0)
            (try rw [show 2 * 1 = 2 from rfl] at hw385_0)
            (try simp only [Nat.reduceMul, Nat.reduceEqDiff, Go.Addr.add, ↓reduceIte] at hw385_0)
            obtain rfl : ad375 = ad385 := (by injection e385)
            (try simp only [show (2 : Int).toNat = 2 from rfl, Nat.reduceMul, Nat.reduceEqDiff, Go.Addr.add, ↓reduceIte] at hx385_0)
            have qi385 : (2 < l2.length) = True := eq_true (by omega)
            (try rw [show ((2 : Int)).toNat = 2 from rfl] at hx385_0)
            replace hx385_0 := (HB.out.cell (World.block_lt_of_cell? w _ hx385_0)).trans hx385_0
            have HR385_0 := Aside0.mk hi385_0
            have HC385_0 := Aside0.mk hl385_0
            clear hi385_0 hl385_0
            replace p385 := eq_true p385
            replace q385 := eq_true q385
            refine start_ (n := 10) (S := fun w' => w'.cell? ⟨gb372, 0, none⟩ = some (.int .i64 a1_0) ∧ w'.cell? ⟨gb372, 1, none⟩ = some (.slice A1_1 l1_1.length c1_1) ∧ w'.cell? ⟨ad375.block, ad375.off + 2, none⟩ = some (.slice A385_0 (rd_L1 l2 2).length c385_0)) (ds := []) #[Z,Z,Z,Z,Z,Z,Z,Z,Z,Z] (by kernel_rfl) rfl rfl ⟨(blk_cell BK372.out 0).trans rfl, (blk_cell BK372.out 1).trans rfl, ((HB.out.cell (World.block_lt_of_cell? w _ hw385_0)).trans hw385_0)⟩ (fun hHeld => ?_); refine with_tabW examboardref43_Score.tab13 examboardref43_Score.bits13 (fun HT_ HW_ => ?_)
            generalize w39.drew = w40 at BK371 BK372 HB HR385_0 hx385_0 hHeld ⊢
            refine pu (i := 1) (N := some 71) #[Z,Y,Z,Z,Z,Z,Z,Z,Z,Z] rfl rfl (any_of HT_.out (by kernel_rfl)) ?_
            refine pu (i := 2) (N := some 72) #[Z,Y,Y,Z,Z,Z,Z,Z,Z,Z] rfl rfl (any_of HT_.out (by kernel_rfl)) ?_
            refine take_ (i := 0) (N := some 70) (v := ?_) (a' := ?_) #[Y,Y,Y,Z,Z,Z,Z,Z,Z,Z] rfl rfl (take_ofW HT_.out HW_.out (by kernel_rfl)) (fun _ _ _ h => h) (Or.inl ⟨by rfl, ?_⟩) hHeld ?_ ?_
            rotate_left
            ·
             rintro w' ⟨s0, s1, s2⟩
             go_simp
             with_reducible rfl
            rotate_left
            ·
             simp only [Act.put, List.setIfInBounds_toArray, List.set_cons_zero, List.set_cons_succ, i64_w, i32_w]
             rfl
            refine take_ (i := 3) (N := some 73) (v := ?_) (a' := ?_) #[Y,Y,Y,Y,Z,Z,Z,Z,Z,Z] rfl rfl (take_ofW HT_.out HW_.out (by kernel_rfl)) (fun _ _ _ h => h) (Or.inl ⟨by rfl, ?_⟩) hHeld ?_ ?_
            rotate_left
            ·
             rintro w' ⟨s0, s1, s2⟩
             go_simp
             with_reducible rfl
            rotate_left
            ·
             simp only [Act.put, List.setIfInBounds_toArray, List.set_cons_zero, List.set_cons_succ, i64_w, i32_w]
             rfl
            refine one_ (i := 4) (N := some 74) #[true, true, true, true, true, false, false, false, false, false] rfl rfl (one_of HT_.out (by kernel_rfl)) (by decide) (fun K hK => ?_)
            refine goes_ Try.func35 (by kernel_rfl) rfl #[.agg #[.int .i64 a1_0, .slice A1_1 l1_1.length c1_1], .slice A385_0 (rd_L1 l2 2).length c385_0] (by rfl) rfl rfl (by (try simp only [List.map_toArray, List.map_cons, List.map_nil]); first | done | rfl | (simp only [List.length_drop, List.length_take]; rfl)) ?_
            with_reducible refine (examboardref41_Total.calls kj16 a1_0 _ _ l1_1 _ _ (rd_L1 l2 2) t386 t387 _ ?side1 ?side2 ?side3 ?side4 A36.out).mono ?_
            (case side1 => exact Ck (Kd.C_below HR1_1.out HB.out))
            (case side2 => exact HC1_1.out)
            (case side3 => exact Ck (Kd.C_below HR385_0.out HB.out))
            (case side4 => exact HC385_0.out)
            rintro e w41 ⟨rfl, hb⟩
            refine ⟨_, rfl, ?_⟩
            have n0_ := Aside0.mk (blk_below (g := gb371) (o := .cells #[.int .i64 a0_0, .int .i64 a0_1] 23 (0, 0)) (Bk BK371.out) hb)
            have n1_ := Aside0.mk (blk_below (g := gb372) (o := .cells #[.int .i64 a1_0, .slice A1_1 l1_1.length c1_1] 26 (0, 0)) (Bk BK372.out) hb)
            have n2_ := Aside0.mk (below_step (Bw HB.out) hb)
            clear BK371
            clear BK372
            clear HB
            have BK371 := n0_
            have BK372 := n1_
            have HB := n2_
            clear n0_ n1_ n2_
            (try clear hb)
            (try clear hb2)
            (try clear hk)
            (try clear hi)
            refine hK.out _ _ ⟨(blk_cell BK372.out 0).trans rfl, (blk_cell BK372.out 1).trans rfl, ((HB.out.cell (World.block_lt_of_cell? w _ hw385_0)).trans hw385_0)⟩ (fun hHeld => ?_)
            clear hK K
            refine norm_ (a' := ?_) ?_ ?_
            rotate_left
            ·
             show Act.put _ (some 74) _ = _
             simp only [Act.put, List.setIfInBounds_toArray, List.set_cons_zero, List.set_cons_succ, i64_w, i32_w]
             rfl
            refine pu (i := 5) (N := some 69) #[Y,Y,Y,Y,Y,Y,Z,Z,Z,Z] rfl rfl (any_of HT_.out (by kernel_rfl)) ?_
            refine pu (i := 6) (N := some 75) #[Y,Y,Y,Y,Y,Y,Y,Z,Z,Z] rfl rfl (any_of HT_.out (by kernel_rfl)) ?_
            refine pu (i := 7) (N := some 76) #[Y,Y,Y,Y,Y,Y,Y,Y,Z,Z] rfl rfl (any_of HT_.out (by kernel_rfl)) ?_
            refine pu (i := 8) (N := some 16) #[Y,Y,Y,Y,Y,Y,Y,Y,Y,Z] rfl rfl (any_of HT_.out (by kernel_rfl)) ?_
            refine pu (i := 9) (N := some 17) #[Y,Y,Y,Y,Y,Y,Y,Y,Y,Y] rfl rfl (any_of HT_.out (by kernel_rfl)) ?_
            refine done_ (done_of HT_.out (by kernel_rfl)) ?_
            have hnb42 := NB371_372.out
            have hnc42 := NB372_371.out
            have hcz43_0 : w41.cell? ⟨gb371, 0, none⟩ = some (.int .i64 a0_0) := (blk_cell BK371.out 0).trans rfl
            have hcz43_1 : w41.cell? ⟨gb371, 1, none⟩ = some (.int .i64 a0_1) := (blk_cell BK371.out 1).trans rfl
            have hfz43_0 := blk_frozen BK371.out 0
            have hfz43_1 := blk_frozen BK371.out 1
            go_upto_region 15 with (fail)
            go_cut [79] (fun v79 wc => ∃ (kq : Nat) (x79_36 : Bool), v79 = .bool x79_36 ∧ Aside0 (examboardref43_Score.j1 kq l2 t376 t379 t386 a0_1 x79_36 a1_0 l1_1 = some (r1, r2)) ∧ Aside0 (kq ≤ kj16) ∧ Aside0 (wc.heap[gb371]? = some (.cells #[.int .i64 a0_0, .int .i64 a0_1] 23 (0, 0))) ∧ Aside0 (wc.heap[gb372]? = some (.cells #[.int .i64 a1_0, (.slice A1_1 l1_1.length c1_1)] 26 (0, 0))) ∧ Aside0 (Below w.heap.size w wc))
            case first =>
             have H := HC37.out
             clear HC37
             have H' := Aside0.mk H
             clear H
             go_wp2
             go_meet
             case rel => exact ⟨_, ((a0_1 == 1)), (by first | rfl | (simp; done) | (simp [*]; done)), H', ⟨by have := HJ16.out; first | omega | exact Nat.le_refl _⟩, ⟨Bk BK371.out⟩, ⟨Bk BK372.out⟩, ⟨Bw HB.out⟩⟩
            case rest =>
             clear HC37
             (try clear c1); (try clear c2); (try clear p2); (try clear c3); (try clear p3); (try clear q3); (try clear hx3); (try clear qi3); (try clear c4); (try clear p6); (try clear c21); (try clear c28); (try clear c29); (try clear c29b0); (try clear c29b1); (try clear c30); (try clear c30b0); (try clear c30b1); (try clear c32); (try clear c35); (try clear c35b0); (try clear c35b1); (try clear p37); (try clear q37); (try clear hx37); (try clear c38); (try clear p38); (try clear q38); (try clear hx38); (try clear qi38); (try clear c42); (try clear hcz43_0); (try clear hcz43_1); (try clear hfz10_1); (try clear hfz11_0); (try clear hfz11_1); (try clear hfz21_0); (try clear hfz21_1); (try clear hfz22_0); (try clear hfz22_1); (try clear hfz43_0); (try clear hfz43_1); (try clear hx375_0); (try clear hx378_0); (try clear hx381_0); (try clear hx382_0); (try clear hx385_0); (try clear p375); (try clear p378); (try clear p381); (try clear p382); (try clear p385); (try clear q375); (try clear q378); (try clear q381); (try clear q382); (try clear q385)
             obtain ⟨kq, x79_36, rfl, HA, HJ36, BK371, BK372, HB⟩ := hcut
             cases kq with
             | zero => exact absurd HA.out (by simp [examboardref43_Score.j1])
             | succ kj36 =>
              have H := HA.out
              clear HA
              simp only [examboardref43_Score.j1] at H
              by_cases c44 : x79_36 = true
              ·
               subst c44
               have H1 : (some (wrap64 (2 * t386), 0)) = some (r1, r2) := by rw [if_pos rfl] at H; exact H
               clear H
               have H := H1
               clear H1
               simp only [Option.some.injEq, Prod.mk.injEq] at H
               obtain ⟨rfl, rfl⟩ := H
               go_wp2
               go_ret2
               exact ⟨Es, Bw HB.out⟩
              ·
               replace c44 := Bool.eq_false_iff.mpr c44
               subst c44
               have H1 : (if a0_1 = 2 then ((examboardref43_apart.f t379 t386).bind fun t388 => ((examboardref43_apart.f t376 t386).bind fun t389 => (if t388 < t389 then (some (wrap64 (t379 + t386), 0)) else (some (wrap64 (t376 + t386), 0))))) else (if 0 < (l2.length : Int) then (if 1 < (l2.length : Int) then (if 2 < (l2.length : Int) then ((examboardref41_Median.f kj36 a1_0 l1_1 (rd_L1 l2 0) (rd_L1 l2 1) (rd_L1 l2 2)).bind fun bt393 => ((examboardref41_Total.f kj36 a1_0 l1_1 bt393.1).bind fun bt397 => (some (wrap64 (2 * bt397.1), 0)))) else (none)) else (none)) else (none))) = some (r1, r2) := by rw [if_neg (show ¬ (false = true) by decide)] at H; exact H
               clear H
               have H := H1
               clear H1
               by_cases c45 : a0_1 = 2
               ·
                rw [if_pos c45] at H
                have c45b0 : (a0_1 == 2) = true := beq_iff_eq.mpr c45
                have c45b1 : (a0_1 != 2) = false := bne_eq_false_iff_eq.mpr c45
                clear c45
                replace H := Option.bind_eq_some_iff.mp H
                obtain ⟨t388, A460, H⟩ := H
                replace H : ((examboardref43_apart.f t376 t386).bind fun t389 => (if t388 < t389 then (some (wrap64 (t379 + t386), 0)) else (some (wrap64 (t376 + t386), 0)))) = some (r1, r2) := H
                have A46 := Aside0.mk A460
                clear A460
                replace H := Option.bind_eq_some_iff.mp H
                obtain ⟨t389, A470, H⟩ := H
                replace H : (if t388 < t389 then (some (wrap64 (t379 + t386), 0)) else (some (wrap64 (t376 + t386), 0))) = some (r1, r2) := H
                have A47 := Aside0.mk A470
                clear A470
                by_cases c48 : t388 < t389
                ·
                 rw [if_pos c48] at H
                 have c48b0 : decide (t388 < t389) = true := decide_eq_true c48
                 clear c48
                 simp only [Option.some.injEq, Prod.mk.injEq] at H
                 obtain ⟨rfl, rfl⟩ := H
                 go_wp2_with (first | ((with_reducible refine gate_callee (f := 36) rfl ?_); refine goesL_ (some 87) rfl rfl Try.func36 (by kernel_rfl) rfl #[.int .i64 t379, .int .i64 t386] rfl (by (try simp only [List.map_toArray, List.map_cons, List.map_nil]); first | done | rfl | (simp only [List.length_drop, List.length_take]; rfl)) ?_; (with_reducible refine (examboardref43_apart.calls t379 t386 t388 _ A46.out).mono ?_); rintro e w' ⟨rfl, ⟨nd, rfl⟩⟩; refine ⟨_, rfl, ?_⟩) | ((with_reducible refine gate_callee (f := 36) rfl ?_); refine goesL_ (some 90) rfl rfl Try.func36 (by kernel_rfl) rfl #[.int .i64 t376, .int .i64 t386] rfl (by (try simp only [List.map_toArray, List.map_cons, List.map_nil]); first | done | rfl | (simp only [List.length_drop, List.length_take]; rfl)) ?_; (with_reducible refine (examboardref43_apart.calls t376 t386 t389 _ A47.out).mono ?_); rintro e w' ⟨rfl, ⟨nd, rfl⟩⟩; refine ⟨_, rfl, ?_⟩))
                 go_ret2
                 exact ⟨Es, Bw HB.out⟩
                ·
                 rw [if_neg c48] at H
                 have c48b0 : decide (t388 < t389) = false := decide_eq_false c48
                 clear c48
                 simp only [Option.some.injEq, Prod.mk.injEq] at H
                 obtain ⟨rfl, rfl⟩ := H
                 go_wp2_with (first | ((with_reducible refine gate_callee (f := 36) rfl ?_); refine goesL_ (some 87) rfl rfl Try.func36 (by kernel_rfl) rfl #[.int .i64 t379, .int .i64 t386] rfl (by (try simp only [List.map_toArray, List.map_cons, List.map_nil]); first | done | rfl | (simp only [List.length_drop, List.length_take]; rfl)) ?_; (with_reducible refine (examboardref43_apart.calls t379 t386 t388 _ A46.out).mono ?_); rintro e w' ⟨rfl, ⟨nd, rfl⟩⟩; refine ⟨_, rfl, ?_⟩) | ((with_reducible refine gate_callee (f := 36) rfl ?_); refine goesL_ (some 90) rfl rfl Try.func36 (by kernel_rfl) rfl #[.int .i64 t376, .int .i64 t386] rfl (by (try simp only [List.map_toArray, List.map_cons, List.map_nil]); first | done | rfl | (simp only [List.length_drop, List.length_take]; rfl)) ?_; (with_reducible refine (examboardref43_apart.calls t376 t386 t389 _ A47.out).mono ?_); rintro e w' ⟨rfl, ⟨nd, rfl⟩⟩; refine ⟨_, rfl, ?_⟩))
                 go_ret2
                 exact ⟨Es, Bw HB.out⟩
               ·
                rw [if_neg c45] at H
                have c45b0 : (a0_1 == 2) = false := beq_eq_false_iff_ne.mpr c45
                have c45b1 : (a0_1 != 2) = true := bne_iff_ne.mpr c45
                by_cases c49 : 0 < (l2.length : Int)
                ·
                 rw [if_pos c49] at H
                 have c49b0 : decide (0 < (l2.length : Int)) = true := decide_eq_true c49
                 have c49b1 : decide (0 < l2.length) = true := decide_eq_true (by omega)
                 clear c49
                 by_cases c50 : 1 < (l2.length : Int)
                 ·
                  rw [if_pos c50] at H
                  have c50b0 : decide (1 < (l2.length : Int)) = true := decide_eq_true c50
                  have c50b1 : decide (1 < l2.length) = true := decide_eq_true (by omega)
                  clear c50
                  by_cases c51 : 2 < (l2.length : Int)
                  ·
                   rw [if_pos c51] at H
                   have c51b0 : decide (2 < (l2.length : Int)) = true := decide_eq_true c51
                   have c51b1 : decide (2 < l2.length) = true := decide_eq_true (by omega)
                   clear c51
                   replace H := Option.bind_eq_some_iff.mp H
                   obtain ⟨⟨t393, t396⟩, A520, H⟩ := H
                   replace H : ((examboardref41_Total.f kj36 a1_0 l1_1 t393).bind fun bt397 => (some (wrap64 (2 * bt397.1), 0))) = some (r1, r2) := H
                   have A52 := Aside0.mk A520
                   clear A520
                   replace H := Option.bind_eq_some_iff.mp H
                   obtain ⟨⟨t397, t398⟩, A530, H⟩ := H
                   replace H : (some (wrap64 (2 * t397), 0)) = some (r1, r2) := H
                   have A53 := Aside0.mk A530
                   clear A530
                   simp only [Option.some.injEq, Prod.mk.injEq] at H
                   obtain ⟨rfl, rfl⟩ := H
                   try go_wp2
                   have n0_ := Aside0.mk (blk_drew BK371.out)
                   have n1_ := Aside0.mk (blk_drew BK372.out)
                   have n2_ := Aside0.mk (below_drew1 HB.out)
                   clear BK371
                   clear BK372
                   clear HB
                   have BK371 := n0_
                   have BK372 := n1_
                   have HB := n2_
                   clear n0_ n1_ n2_
                   have p390 : 0 ≤ (0 : Int) := (by omega)
                   have q390 : 0 < (l2.length : Int) := of_decide_eq_true (by first | (with_reducible assumption) | assumption)
                   obtain ⟨ad390, A390_0, c390_0, e390, hx390_0, hl390_0, hi390_0⟩ := at_L1 HR2.out 0 p390 q390
                   have hw390_0 := hx390_0
                   (try rw [show ((0 : Int)).toNat = 0 from rfl] at hw390_0)
                   (try rw [show 0 * 1 = 0 from rfl] at hw390_0)
                   (try rw [Addr.add_zero'] at hw390_0)
                   obtain rfl : ad375 = ad390 := (by injection e390)
                   have qi390 : (0 < l2.length) = True := eq_true (by omega)
                   (try rw [show ((0 : Int)).toNat = 0 from rfl] at hx390_0)
                   (try rw [Addr.add_zero'] at hx390_0)
                   replace hx390_0 := (HB.out.cell (World.block_lt_of_cell? w _ hx390_0)).trans hx390_0
                   have HR390_0 := Aside0.mk hi390_0
                   have HC390_0 := Aside0.mk hl390_0
                   clear hi390_0 hl390_0
                   replace p390 := eq_true p390
                   replace q390 := eq_true q390
                   have p391 : 0 ≤ (1 : Int) := (by omega)
                   have q391 : 1 < (l2.length : Int) := of_decide_eq_true (by first | (with_reducible assumption) | assumption)
                   obtain ⟨ad391, A391_0, c391_0, e391, hx391_0, hl391_0, hi391_0⟩ := at_L1 HR2.out 1 p391 q391
                   have hw391_0 := hx391_0
                   (try rw [show ((1 : Int)).toNat = 1 from rfl] at hw391_0)
                   (try rw [show 1 * 1 = 1 from rfl] at hw391_0)
                   (try simp only [Nat.reduceMul, Nat.reduceEqDiff, Go.Addr.add, ↓reduceIte] at hw391_0)
                   obtain rfl : ad375 = ad391 := (by injection e391)
                   (try simp only [show (1 : Int).toNat = 1 from rfl, Nat.reduceMul, Nat.reduceEqDiff, Go.Addr.add, ↓reduceIte] at hx391_0)
                   have qi391 : (1 < l2.length) = True := eq_true (by omega)
                   (try rw [show ((1 : Int)).toNat = 1 from rfl] at hx391_0)
                   replace hx391_0 := (HB.out.cell (World.block_lt_of_cell? w _ hx391_0)).trans hx391_0
                   have HR391_0 := Aside0.mk hi391_0
                   have HC391_0 := Aside0.mk hl391_0
                   clear hi391_0 hl391_0
                   replace p391 := eq_true p391
                   replace q391 := eq_true q391
                   have p392 : 0 ≤ (2 : Int) := (by omega)
                   have q392 : 2 < (l2.length : Int) := of_decide_eq_true (by first | (with_reducible assumption) | assumption)
                   obtain ⟨ad392, A392_0, c392_0, e392, hx392_0, hl392_0, hi392_0⟩ := at_L1 HR2.out 2 p392 q392
                   have hw392_0 := hx392_0
                   (try rw [show ((2 : Int)).toNat = 2 from rfl] at hw392_0)
                   (try rw [show 2 * 1 = 2 from rfl] at hw392_0)
                   (try simp only [Nat.reduceMul, Nat.reduceEqDiff, Go.Addr.add, ↓reduceIte] at hw392_0)
                   obtain rfl : ad375 = ad392 := (by injection e392)
                   (try simp only [show (2 : Int).toNat = 2 from rfl, Nat.reduceMul, Nat.reduceEqDiff, Go.Addr.add, ↓reduceIte] at hx392_0)
                   have qi392 : (2 < l2.length) = True := eq_true (by omega)
                   (try rw [show ((2 : Int)).toNat = 2 from rfl] at hx392_0)
                   replace hx392_0 := (HB.out.cell (World.block_lt_of_cell? w _ hx392_0)).trans hx392_0
                   have HR392_0 := Aside0.mk hi392_0
                   have HC392_0 := Aside0.mk hl392_0
                   clear hi392_0 hl392_0
                   replace p392 := eq_true p392
                   replace q392 := eq_true q392
                   refine start_ (n := 16) (S := fun w' => w'.cell? ⟨gb372, 0, none⟩ = some (.int .i64 a1_0) ∧ w'.cell? ⟨gb372, 1, none⟩ = some (.slice A1_1 l1_1.length c1_1) ∧ w'.cell? ad375 = some (.slice A390_0 (rd_L1 l2 0).length c390_0) ∧ w'.cell? ⟨ad375.block, ad375.off + 1, none⟩ = some (.slice A391_0 (rd_L1 l2 1).length c391_0) ∧ w'.cell? ⟨ad375.block, ad375.off + 2, none⟩ = some (.slice A392_0 (rd_L1 l2 2).length c392_0)) (ds := []) #[Z,Z,Z,Z,Z,Z,Z,Z,Z,Z,Z,Z,Z,Z,Z,Z] (by kernel_rfl) rfl rfl ⟨(blk_cell BK372.out 0).trans rfl, (blk_cell BK372.out 1).trans rfl, ((HB.out.cell (World.block_lt_of_cell? w _ hw390_0)).trans hw390_0), ((HB.out.cell (World.block_lt_of_cell? w _ hw391_0)).trans hw391_0), ((HB.out.cell (World.block_lt_of_cell? w _ hw392_0)).trans hw392_0)⟩ (fun hHeld => ?_); refine with_tabW examboardref43_Score.tab21 examboardref43_Score.bits21 (fun HT_ HW_ => ?_)
                   generalize wc.drew = w54 at BK371 BK372 HB HR390_0 HR391_0 HR392_0 hx390_0 hx391_0 hx392_0 hHeld ⊢
                   refine pu (i := 1) (N := some 100) #[Z,Y,Z,Z,Z,Z,Z,Z,Z,Z,Z,Z,Z,Z,Z,Z] rfl rfl (any_of HT_.out (by kernel_rfl)) ?_
                   refine pu (i := 2) (N := some 101) #[Z,Y,Y,Z,Z,Z,Z,Z,Z,Z,Z,Z,Z,Z,Z,Z] rfl rfl (any_of HT_.out (by kernel_rfl)) ?_
                   refine pu (i := 4) (N := some 103) #[Z,Y,Y,Z,Y,Z,Z,Z,Z,Z,Z,Z,Z,Z,Z,Z] rfl rfl (any_of HT_.out (by kernel_rfl)) ?_
                   refine pu (i := 5) (N := some 104) #[Z,Y,Y,Z,Y,Y,Z,Z,Z,Z,Z,Z,Z,Z,Z,Z] rfl rfl (any_of HT_.out (by kernel_rfl)) ?_
                   refine pu (i := 7) (N := some 106) #[Z,Y,Y,Z,Y,Y,Z,Y,Z,Z,Z,Z,Z,Z,Z,Z] rfl rfl (any_of HT_.out (by kernel_rfl)) ?_
                   refine pu (i := 8) (N := some 107) #[Z,Y,Y,Z,Y,Y,Z,Y,Y,Z,Z,Z,Z,Z,Z,Z] rfl rfl (any_of HT_.out (by kernel_rfl)) ?_
                   refine take_ (i := 0) (N := some 99) (v := ?_) (a' := ?_) #[Y,Y,Y,Z,Y,Y,Z,Y,Y,Z,Z,Z,Z,Z,Z,Z] rfl rfl (take_ofW HT_.out HW_.out (by kernel_rfl)) (fun _ _ _ h => h) (Or.inl ⟨by rfl, ?_⟩) hHeld ?_ ?_
                   rotate_left
                   ·
                    rintro w' ⟨s0, s1, s2, s3, s4⟩
                    go_simp
                    with_reducible rfl
                   rotate_left
                   ·
                    simp only [Act.put, List.setIfInBounds_toArray, List.set_cons_zero, List.set_cons_succ, i64_w, i32_w]
                    rfl
                   refine take_ (i := 3) (N := some 102) (v := ?_) (a' := ?_) #[Y,Y,Y,Y,Y,Y,Z,Y,Y,Z,Z,Z,Z,Z,Z,Z] rfl rfl (take_ofW HT_.out HW_.out (by kernel_rfl)) (fun _ _ _ h => h) (Or.inl ⟨by rfl, ?_⟩) hHeld ?_ ?_
                   rotate_left
                   ·
                    rintro w' ⟨s0, s1, s2, s3, s4⟩
                    go_simp
                    with_reducible rfl
                   rotate_left
                   ·
                    simp only [Act.put, List.setIfInBounds_toArray, List.set_cons_zero, List.set_cons_succ, i64_w, i32_w]
                    rfl
                   refine take_ (i := 6) (N := some 105) (v := ?_) (a' := ?_) #[Y,Y,Y,Y,Y,Y,Y,Y,Y,Z,Z,Z,Z,Z,Z,Z] rfl rfl (take_ofW HT_.out HW_.out (by kernel_rfl)) (fun _ _ _ h => h) (Or.inl ⟨by rfl, ?_⟩) hHeld ?_ ?_
                   rotate_left
                   ·
                    rintro w' ⟨s0, s1, s2, s3, s4⟩
                    go_simp
                    with_reducible rfl
                   rotate_left
                   ·
                    simp only [Act.put, List.setIfInBounds_toArray, List.set_cons_zero, List.set_cons_succ, i64_w, i32_w]
                    rfl
                   refine take_ (i := 9) (N := some 108) (v := ?_) (a' := ?_) #[Y,Y,Y,Y,Y,Y,Y,Y,Y,Y,Z,Z,Z,Z,Z,Z] rfl rfl (take_ofW HT_.out HW_.out (by kernel_rfl)) (fun _ _ _ h => h) (Or.inl ⟨by rfl, ?_⟩) hHeld ?_ ?_
                   rotate_left
                   ·
                    rintro w' ⟨s0, s1, s2, s3, s4⟩
                    go_simp
                    with_reducible rfl
                   rotate_left
                   ·
                    simp only [Act.put, List.setIfInBounds_toArray, List.set_cons_zero, List.set_cons_succ, i64_w, i32_w]
                    rfl
                   refine one_ (i := 10) (N := some 109) #[true, true, true, true, true, true, true, true, true, true, true, false, false, false, false, false] rfl rfl (one_of HT_.out (by kernel_rfl)) (by decide) (fun K hK => ?_)
                   refine goes_ Try.func37 (by kernel_rfl) rfl #[.agg #[.int .i64 a1_0, .slice A1_1 l1_1.length c1_1], .slice A390_0 (rd_L1 l2 0).length c390_0, .slice A391_0 (rd_L1 l2 1).length c391_0, .slice A392_0 (rd_L1 l2 2).length c392_0] (by rfl) rfl rfl (by (try simp only [List.map_toArray, List.map_cons, List.map_nil]); first | done | rfl | (simp only [List.length_drop, List.length_take]; rfl)) ?_
                   with_reducible refine (examboardref41_Median.calls kj36 a1_0 _ _ l1_1 _ _ (rd_L1 l2 0) _ _ (rd_L1 l2 1) _ _ (rd_L1 l2 2) t393 t396 _ ?side1 ?side2 ?side3 ?side4 ?side5 ?side6 ?side7 ?side8 A52.out).mono ?_
                   (case side1 => exact Ck (Kd.C_below HR1_1.out HB.out))
                   (case side2 => exact HC1_1.out)
                   (case side3 => exact Ck (Kd.C_below HR390_0.out HB.out))
                   (case side4 => exact HC390_0.out)
                   (case side5 => exact Ck (Kd.C_below HR391_0.out HB.out))
                   (case side6 => exact HC391_0.out)
                   (case side7 => exact Ck (Kd.C_below HR392_0.out HB.out))
                   (case side8 => exact HC392_0.out)
                   rintro e w55 ⟨v394, rfl, ho0, hb⟩
                   refine ⟨_, rfl, ?_⟩
                   have n0_ := Aside0.mk (Kd.R_lower ho0 (below_size (Bw HB.out)))
                   have n1_ := Aside0.mk (blk_below (g := gb371) (o := .cells #[.int .i64 a0_0, .int .i64 a0_1] 23 (0, 0)) (Bk BK371.out) hb)
                   have n2_ := Aside0.mk (blk_below (g := gb372) (o := .cells #[.int .i64 a1_0, .slice A1_1 l1_1.length c1_1] 26 (0, 0)) (Bk BK372.out) hb)
                   have n3_ := Aside0.mk (below_step (Bw HB.out) hb)
                   clear BK371
                   clear BK372
                   clear HB
                   have HO395 := n0_
                   have BK371 := n1_
                   have BK372 := n2_
                   have HB := n3_
                   clear n0_ n1_ n2_ n3_
                   (try clear hb)
                   (try clear hb2)
                   (try clear hk)
                   (try clear hi)
                   (try clear ho0)
                   refine hK.out _ _ ⟨(blk_cell BK372.out 0).trans rfl, (blk_cell BK372.out 1).trans rfl, ((HB.out.cell (World.block_lt_of_cell? w _ hw390_0)).trans hw390_0), ((HB.out.cell (World.block_lt_of_cell? w _ hw391_0)).trans hw391_0), ((HB.out.cell (World.block_lt_of_cell? w _ hw392_0)).trans hw392_0)⟩ (fun hHeld => ?_)
                   clear hK K
                   refine norm_ (a' := ?_) ?_ ?_
                   rotate_left
                   ·
                    show Act.put _ (some 109) _ = _
                    simp only [Act.put, List.setIfInBounds_toArray, List.set_cons_zero, List.set_cons_succ, i64_w, i32_w]
                    rfl
                   refine pu (i := 11) (N := some 98) #[Y,Y,Y,Y,Y,Y,Y,Y,Y,Y,Y,Y,Z,Z,Z,Z] rfl rfl (any_of HT_.out (by kernel_rfl)) ?_
                   refine pu (i := 12) (N := some 110) #[Y,Y,Y,Y,Y,Y,Y,Y,Y,Y,Y,Y,Y,Z,Z,Z] rfl rfl (any_of HT_.out (by kernel_rfl)) ?_
                   refine pu (i := 13) (N := some 111) #[Y,Y,Y,Y,Y,Y,Y,Y,Y,Y,Y,Y,Y,Y,Z,Z] rfl rfl (any_of HT_.out (by kernel_rfl)) ?_
                   refine pu (i := 14) (N := some 18) #[Y,Y,Y,Y,Y,Y,Y,Y,Y,Y,Y,Y,Y,Y,Y,Z] rfl rfl (any_of HT_.out (by kernel_rfl)) ?_
                   refine pu (i := 15) (N := some 19) #[Y,Y,Y,Y,Y,Y,Y,Y,Y,Y,Y,Y,Y,Y,Y,Y] rfl rfl (any_of HT_.out (by kernel_rfl)) ?_
                   refine done_ (done_of HT_.out (by kernel_rfl)) ?_
                   have hnb56 := NB372_371.out
                   have hnc56 := NB371_372.out
                   have hcz57_0 : w55.cell? ⟨gb372, 0, none⟩ = some (.int .i64 a1_0) := (blk_cell BK372.out 0).trans rfl
                   have hcz57_1 : w55.cell? ⟨gb372, 1, none⟩ = some (.slice A1_1 l1_1.length c1_1) := (blk_cell BK372.out 1).trans rfl
                   have hfz57_0 := blk_frozen BK372.out 0
                   have hfz57_1 := blk_frozen BK372.out 1
                   obtain ⟨Ao58, co58, eo58⟩ := Kd.R_slice HO395.out
                   subst eo58
                   try go_wp2_with (first | ((with_reducible refine gate_callee (f := 35) rfl ?_); refine goesL_ (some 115) rfl rfl Try.func35 (by kernel_rfl) rfl #[.agg #[.int .i64 a1_0, .slice A1_1 l1_1.length c1_1], .slice Ao58 t393.length co58] rfl (by (try simp only [List.map_toArray, List.map_cons, List.map_nil]); first | done | rfl | (simp only [List.length_drop, List.length_take]; rfl)) ?_; (with_reducible refine (examboardref41_Total.calls kj36 a1_0 _ _ l1_1 _ _ t393 t397 t398 _ ?side1 ?side2 ?side3 ?side4 A53.out).mono ?_); (case side1 => exact Ck (Kd.C_below HR1_1.out HB.out)); (case side2 => exact HC1_1.out); (case side3 => exact Ck (Kd.R_reads' HO395.out).2.2); (case side4 => exact (Kd.R_reads' HO395.out).2.1); rintro e w59 ⟨rfl, hb⟩; refine ⟨_, rfl, ?_⟩; have n0_ := Aside0.mk (Kd.R_below (Rk HO395.out) hb); have n1_ := Aside0.mk (blk_below (g := gb371) (o := .cells #[.int .i64 a0_0, .int .i64 a0_1] 23 (0, 0)) (Bk BK371.out) hb); have n2_ := Aside0.mk (blk_below (g := gb372) (o := .cells #[.int .i64 a1_0, .slice A1_1 l1_1.length c1_1] 26 (0, 0)) (Bk BK372.out) hb); have n3_ := Aside0.mk (below_step (Bw HB.out) hb); clear HO395; clear BK371; clear BK372; clear HB; have HO395 := n0_; have BK371 := n1_; have BK372 := n2_; have HB := n3_; clear n0_ n1_ n2_ n3_; (try clear hb); (try clear hb2); (try clear hk); (try clear hi)))
                   go_ret2
                   exact ⟨Es, Bw HB.out⟩
                  ·
                   rw [if_neg c51] at H
                   exact absurd H (by simp)
                 ·
                  rw [if_neg c50] at H
                  exact absurd H (by simp)
                ·
                 rw [if_neg c49] at H
                 exact absurd H (by simp)
           ·
            rw [if_neg c35] at H
            exact absurd H (by simp)
         ·
          rw [if_neg c30] at H
          exact absurd H (by simp)
        ·
         rw [if_neg c29] at H
         exact absurd H (by simp)
    ·
     rw [if_neg c15] at H
     exact absurd H (by simp)
   ·
    rw [if_neg c13] at H
    exact absurd H (by simp)
 ·
  rw [if_neg c5] at H
  have c5b0 : (t374 == 0) = false := beq_eq_false_iff_ne.mpr c5
  have c5b1 : (t374 != 0) = true := bne_iff_ne.mpr c5
  simp only [Option.some.injEq, Prod.mk.injEq] at H
  obtain ⟨rfl, rfl⟩ := H
  go_enter Try.func18, Try.ntmps18
  go_wp2_with (first | ((with_reducible refine gate_dst (N := 3) rfl ?_); refine box_event ?hg (N := 3) ?hd (cs := #[.int .i64 a0_0, .int .i64 a0_1]) (t := 23) ?hr ?_; (case hd => rfl); (case hg => rfl); (case hr => first | (go_simp; done) | (go_simp; rfl)); intro gb371 hg w60 hbox hb; have n0_ := Aside0.mk (below_step (Bw HB.out) hb); have n1_ := Aside0.mk (hbox); have n2_ := Aside0.mk (Gs hg (Bw HB.out)); have n3_ := Aside0.mk (Gs hg (Bw HB.out)); clear HB; have HB := n0_; have BK371 := n1_; have GW371 := n2_; have GE371 := n3_; clear n0_ n1_ n2_ n3_; clear hb hbox hg) | ((with_reducible refine gate_dst (N := 4) rfl ?_); refine box_event ?hg (N := 4) ?hd (cs := #[.int .i64 a1_0, .slice A1_1 l1_1.length c1_1]) (t := 26) ?hr ?_; (case hd => rfl); (case hg => rfl); (case hr => first | (go_simp; done) | (go_simp; rfl)); intro gb372 hg w61 hbox hb; have n0_ := Aside0.mk (blk_below (g := gb371) (o := .cells #[.int .i64 a0_0, .int .i64 a0_1] 23 (0, 0)) (Bk BK371.out) hb); have n1_ := Aside0.mk (below_step (Bw HB.out) hb); have n2_ := Aside0.mk (hbox); have n3_ := Aside0.mk (Gs hg (Bw HB.out)); have n4_ := Aside0.mk (Gs hg (Bw HB.out)); have n5_ := Aside0.mk ((by rw [hg]; exact Nat.ne_of_lt (blk_lt (g := gb371) (o := .cells #[.int .i64 a0_0, .int .i64 a0_1] 23 (0, 0)) (Bk BK371.out)) : gb371 ≠ gb372)); have n6_ := Aside0.mk ((by rw [hg]; exact Nat.ne_of_gt (blk_lt (g := gb371) (o := .cells #[.int .i64 a0_0, .int .i64 a0_1] 23 (0, 0)) (Bk BK371.out)) : gb372 ≠ gb371)); clear BK371; clear HB; have BK371 := n0_; have HB := n1_; have BK372 := n2_; have GW372 := n3_; have GE372 := n4_; have NB371_372 := n5_; have NB372_371 := n6_; clear n0_ n1_ n2_ n3_ n4_ n5_ n6_; clear hb hbox hg; have hnb62 := NB371_372.out; have hnc62 := NB372_371.out; have hcz63_0 : w61.cell? ⟨gb371, 0, none⟩ = some (.int .i64 a0_0) := (blk_cell BK371.out 0).trans rfl; have hcz63_1 : w61.cell? ⟨gb371, 1, none⟩ = some (.int .i64 a0_1) := (blk_cell BK371.out 1).trans rfl; have hfz63_0 := blk_frozen BK371.out 0; have hfz63_1 := blk_frozen BK371.out 1; have hcz64_0 : w61.cell? ⟨gb372, 0, none⟩ = some (.int .i64 a1_0) := (blk_cell BK372.out 0).trans rfl; have hcz64_1 : w61.cell? ⟨gb372, 1, none⟩ = some (.slice A1_1 l1_1.length c1_1) := (blk_cell BK372.out 1).trans rfl; have hfz64_0 := blk_frozen BK372.out 0; have hfz64_1 := blk_frozen BK372.out 1) | ((with_reducible refine gate_callee (f := 17) rfl ?_); refine goesL_ (some 26) rfl rfl Try.func17 (by kernel_rfl) rfl #[.agg #[.int .i64 a0_0, .int .i64 a0_1], .agg #[.int .i64 a1_0, .slice A1_1 l1_1.length c1_1], .slice A2 l2.length c2] rfl (by (try simp only [List.map_toArray, List.map_cons, List.map_nil]); first | done | rfl | (simp only [List.length_drop, List.length_take]; rfl)) ?_; (with_reducible refine (examboardref43_Need.calls k a0_0 a0_1 a1_0 _ _ l1_1 _ _ l2 t373 t374 _ ?side1 ?side2 ?side3 ?side4 A4.out).mono ?_); (case side1 => exact Ck (Kd.C_below HR1_1.out HB.out)); (case side2 => exact HC1_1.out); (case side3 => exact Ck (Kd.C_below HR2.out HB.out)); (case side4 => exact HC2.out); rintro e w65 ⟨rfl, hb⟩; refine ⟨_, rfl, ?_⟩; have n0_ := Aside0.mk (blk_below (g := gb371) (o := .cells #[.int .i64 a0_0, .int .i64 a0_1] 23 (0, 0)) (Bk BK371.out) hb); have n1_ := Aside0.mk (blk_below (g := gb372) (o := .cells #[.int .i64 a1_0, .slice A1_1 l1_1.length c1_1] 26 (0, 0)) (Bk BK372.out) hb); have n2_ := Aside0.mk (below_step (Bw HB.out) hb); clear BK371; clear BK372; clear HB; have BK371 := n0_; have BK372 := n1_; have HB := n2_; clear n0_ n1_ n2_; (try clear hb); (try clear hb2); (try clear hk); (try clear hi)))
  go_ret2
  exact ⟨Es, Bw HB.out⟩

end Go.Proofs.Ytkajeeikpffioaa.All
