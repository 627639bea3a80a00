-- Written by myprint.py for this claim: functions of the program as Lean functions, with the proofs that the calls come to them.
import Derived.Test.YtkajeeikpffioaaAllx0
import Derived.Test.YtkajeeikpffioaaAllx5
import Derived.Test.YtkajeeikpffioaaAllx6
import Derived.Test.YtkajeeikpffioaaAllx7
namespace Go.Proofs.Ytkajeeikpffioaa.All
open Go.RowKit Go.Proofs.YtkajeeikpffioaaW.PrintWords Go.Proofs.YtkajeeikpffioaaW.PrintLast Go.Proofs.YtkajeeikpffioaaW.PrintMore
attribute [local go_sem] max2_int min2_int max_two min_two max_three min_three max_four min_four   -- for this text's walks alone
set_option linter.unusedVariables false
set_option linter.unusedSimpArgs false

/-! ### adjudicate_Score: function 12 -/
mutual
def adjudicate_Score.j0 : Nat → List (List Int) → Bool → Int → Int → Bool → Int → Int → Int → List (S59) → Option (Int × Int)
 | 0, _, _, _, _, _, _, _, _, _ => none
 | k + 1, x2, x10, x12, x14, x64, x177000, x177001, x178000, x178001 => if x64 = true then (some (wrap64 (x12 + x14), 0)) else (if x10 = true then (some (0, 21)) else (if 2 < (x2.length : Int) then ((rubric_Total.f k x178000 x178001 (rd_L1 x2 2)).bind fun bt191 => (adjudicate_Score.j1 k x2 x12 x14 bt191.1 x177001 (x177001 == 1) x178000 x178001)) else (none)))
def adjudicate_Score.j1 : Nat → List (List Int) → Int → Int → Int → Int → Bool → Int → List (S59) → Option (Int × Int)
 | 0, _, _, _, _, _, _, _, _ => none
 | k + 1, x2, x12, x14, x16, x78, x79, x178000, x178001 => if x79 = true then (some (wrap64 (2 * x16), 0)) else (if x78 = 2 then ((adjudicate_apart.f x14 x16).bind fun t193 => ((adjudicate_apart.f x12 x16).bind fun t194 => (if t193 < t194 then (some (wrap64 (x14 + x16), 0)) else (some (wrap64 (x12 + x16), 0))))) else (if 0 < (x2.length : Int) then (if 1 < (x2.length : Int) then (if 2 < (x2.length : Int) then ((rubric_Median.f k x178000 x178001 (rd_L1 x2 0) (rd_L1 x2 1) (rd_L1 x2 2)).bind fun bt198 => ((rubric_Total.f k x178000 x178001 bt198.1).bind fun bt202 => (some (wrap64 (2 * bt202.1), 0)))) else (none)) else (none)) else (none)))
end
def adjudicate_Score.f (k : Nat) (a0_0 : Int) (a0_1 : Int) (a1_0 : Int) (l1_1 : List (S59)) (l2 : List (List Int)) : Option (Int × Int) := (adjudicate_Need.f k a0_0 a0_1 a1_0 l1_1 l2).bind fun bt178 => (if bt178.2 = 0 then (if bt178.1 > 0 then (some (0, 22)) else (if 0 < (l2.length : Int) then (if 1 < (l2.length : Int) then ((adjudicate_Agree.f k a0_0 a0_1 a1_0 l1_1 (rd_L1 l2 0) (rd_L1 l2 1)).bind fun bt182 => ((rubric_Total.f k a1_0 l1_1 (rd_L1 l2 0)).bind fun bt185 => ((rubric_Total.f k a1_0 l1_1 (rd_L1 l2 1)).bind fun bt188 => (adjudicate_Score.j0 k l2 bt182.1 bt185.1 bt188.1 ((l2.length : Int) == 2) a0_0 a0_1 a1_0 l1_1)))) else (none)) else (none))) else (some (0, bt178.2)))
theorem adjudicate_Score.mono_l : ∀ k, (∀ y0 y1 y2 y3 y4 y5 y6 y7 y8, LeO (adjudicate_Score.j0 k y0 y1 y2 y3 y4 y5 y6 y7 y8) (adjudicate_Score.j0 (k + 1) y0 y1 y2 y3 y4 y5 y6 y7 y8)) ∧ (∀ y0 y1 y2 y3 y4 y5 y6 y7, LeO (adjudicate_Score.j1 k y0 y1 y2 y3 y4 y5 y6 y7) (adjudicate_Score.j1 (k + 1) y0 y1 y2 y3 y4 y5 y6 y7))
 | 0 => ⟨fun _ _ _ _ _ _ _ _ _ r h => by simp [adjudicate_Score.j0] at h, fun _ _ _ _ _ _ _ _ r h => by simp [adjudicate_Score.j1] at h⟩
 | k + 1 => by
  obtain ⟨ih0, ih1⟩ := adjudicate_Score.mono_l k
  refine ⟨?_, ?_⟩
  ·
   intro y0 y1 y2 y3 y4 y5 y6 y7 y8
   unfold adjudicate_Score.j0
   repeat' first
   | (with_reducible exact ih0 _ _ _ _ _ _ _ _ _)
   | (with_reducible exact ih1 _ _ _ _ _ _ _ _)
   | (with_reducible exact adjudicate_Agree.mono _ _ _ _ _ _ _)
   | (with_reducible exact adjudicate_Need.mono _ _ _ _ _ _)
   | (with_reducible exact rubric_Median.mono _ _ _ _ _ _)
   | (with_reducible exact rubric_Total.mono _ _ _ _)
   | (with_reducible exact LeO.refl _)
   | (with_reducible exact LeO.none _)
   | (with_reducible refine LeO.ite ?_ ?_)
   | (with_reducible refine LeO.bind ?_ (fun _ => ?_))
   | exact ih0 _ _ _ _ _ _ _ _ _
   | exact ih1 _ _ _ _ _ _ _ _
   | exact adjudicate_Agree.mono _ _ _ _ _ _ _
   | exact adjudicate_Need.mono _ _ _ _ _ _
   | exact rubric_Median.mono _ _ _ _ _ _
   | exact rubric_Total.mono _ _ _ _
   | exact LeO.none _
   | refine LeO.ite ?_ ?_
   | refine LeO.bind ?_ (fun _ => ?_)
  ·
   intro y0 y1 y2 y3 y4 y5 y6 y7
   unfold adjudicate_Score.j1
   repeat' first
   | (with_reducible exact ih0 _ _ _ _ _ _ _ _ _)
   | (with_reducible exact ih1 _ _ _ _ _ _ _ _)
   | (with_reducible exact adjudicate_Agree.mono _ _ _ _ _ _ _)
   | (with_reducible exact adjudicate_Need.mono _ _ _ _ _ _)
   | (with_reducible exact rubric_Median.mono _ _ _ _ _ _)
   | (with_reducible exact rubric_Total.mono _ _ _ _)
   | (with_reducible exact LeO.refl _)
   | (with_reducible exact LeO.none _)
   | (with_reducible refine LeO.ite ?_ ?_)
   | (with_reducible refine LeO.bind ?_ (fun _ => ?_))
   | exact ih0 _ _ _ _ _ _ _ _ _
   | exact ih1 _ _ _ _ _ _ _ _
   | exact adjudicate_Agree.mono _ _ _ _ _ _ _
   | exact adjudicate_Need.mono _ _ _ _ _ _
   | exact rubric_Median.mono _ _ _ _ _ _
   | exact rubric_Total.mono _ _ _ _
   | exact LeO.none _
   | refine LeO.ite ?_ ?_
   | refine LeO.bind ?_ (fun _ => ?_)
theorem adjudicate_Score.mono : ∀ a0 a1 a2 a3 a4 k, LeO (adjudicate_Score.f k a0 a1 a2 a3 a4) (adjudicate_Score.f (k + 1) a0 a1 a2 a3 a4) := by
 intro a0 a1 a2 a3 a4 k
 obtain ⟨ih0, ih1⟩ := adjudicate_Score.mono_l k
 unfold adjudicate_Score.f
 repeat' first
   | (with_reducible exact ih0 _ _ _ _ _ _ _ _ _)
   | (with_reducible exact ih1 _ _ _ _ _ _ _ _)
   | (with_reducible exact adjudicate_Agree.mono _ _ _ _ _ _ _)
   | (with_reducible exact adjudicate_Need.mono _ _ _ _ _ _)
   | (with_reducible exact rubric_Median.mono _ _ _ _ _ _)
   | (with_reducible exact rubric_Total.mono _ _ _ _)
   | (with_reducible exact LeO.refl _)
   | (with_reducible exact LeO.none _)
   | (with_reducible refine LeO.ite ?_ ?_)
   | (with_reducible refine LeO.bind ?_ (fun _ => ?_))
   | exact ih0 _ _ _ _ _ _ _ _ _
   | exact ih1 _ _ _ _ _ _ _ _
   | exact adjudicate_Agree.mono _ _ _ _ _ _ _
   | exact adjudicate_Need.mono _ _ _ _ _ _
   | exact rubric_Median.mono _ _ _ _ _ _
   | exact rubric_Total.mono _ _ _ _
   | exact LeO.none _
   | refine LeO.ite ?_ ?_
   | refine LeO.bind ?_ (fun _ => ?_)
def adjudicate_Score.T6 : Bool × List (List Nat × List Nat) := (true, [([], []), ([], []), ([], []), ([2], [2]), ([3], [3]), ([], []), ([5], [5]), ([6], [6]), ([0, 1, 4, 7], [0, 1, 4, 7]), ([8], [8]), ([9], [9]), ([9], [9]), ([10, 8, 0, 1, 2, 3, 4, 5, 6, 7, 8, 9, 10], [10]), ([11, 12, 0, 1, 2, 3, 4, 5, 6, 7, 8, 9, 10, 11, 12], [11])])
def adjudicate_Score.B6 : List Nat := [0, 0, 0, 4, 12, 0, 32, 96, 255, 511, 1023, 1023, 2047, 8191]
theorem adjudicate_Score.tab6 : rtab .any (opsOf Try.f12 6) = adjudicate_Score.T6 := by kernel_rfl
theorem adjudicate_Score.bits6 : waitsOk adjudicate_Score.T6.2 adjudicate_Score.B6 = true := by kernel_rfl
def adjudicate_Score.T7 : Bool × List (List Nat × List Nat) := (true, [([], []), ([], []), ([1], [1]), ([2], [2]), ([0, 3], [0, 3]), ([4], [4]), ([5], [5]), ([5], [5]), ([6, 4, 0, 1, 2, 3, 4, 5, 6], [6]), ([7, 8, 0, 1, 2, 3, 4, 5, 6, 7, 8], [7])])
def adjudicate_Score.B7 : List Nat := [0, 0, 2, 6, 15, 31, 63, 63, 127, 511]
theorem adjudicate_Score.tab7 : rtab .any (opsOf Try.f12 7) = adjudicate_Score.T7 := by kernel_rfl
theorem adjudicate_Score.bits7 : waitsOk adjudicate_Score.T7.2 adjudicate_Score.B7 = true := by kernel_rfl
def adjudicate_Score.T8 : Bool × List (List Nat × List Nat) := (true, [([], []), ([], []), ([1], [1]), ([2], [2]), ([0, 3], [0, 3]), ([4], [4]), ([5], [5]), ([5], [5]), ([6, 4, 0, 1, 2, 3, 4, 5, 6], [6]), ([7, 8, 0, 1, 2, 3, 4, 5, 6, 7, 8], [7])])
def adjudicate_Score.B8 : List Nat := [0, 0, 2, 6, 15, 31, 63, 63, 127, 511]
theorem adjudicate_Score.tab8 : rtab .any (opsOf Try.f12 8) = adjudicate_Score.T8 := by kernel_rfl
theorem adjudicate_Score.bits8 : waitsOk adjudicate_Score.T8.2 adjudicate_Score.B8 = true := by kernel_rfl
def adjudicate_Score.T13 : Bool × List (List Nat × List Nat) := (true, [([], []), ([], []), ([1], [1]), ([2], [2]), ([0, 3], [0, 3]), ([4], [4]), ([5], [5]), ([5], [5]), ([6, 4, 0, 1, 2, 3, 4, 5, 6], [6]), ([7, 8, 0, 1, 2, 3, 4, 5, 6, 7, 8], [7])])
def adjudicate_Score.B13 : List Nat := [0, 0, 2, 6, 15, 31, 63, 63, 127, 511]
theorem adjudicate_Score.tab13 : rtab .any (opsOf Try.f12 13) = adjudicate_Score.T13 := by kernel_rfl
theorem adjudicate_Score.bits13 : waitsOk adjudicate_Score.T13.2 adjudicate_Score.B13 = true := by kernel_rfl
def adjudicate_Score.T21 : Bool × List (List Nat × List Nat) := (true, [([], []), ([], []), ([1], [1]), ([2], [2]), ([], []), ([4], [4]), ([5], [5]), ([], []), ([7], [7]), ([8], [8]), ([0, 3, 6, 9], [0, 3, 6, 9]), ([10], [10]), ([11], [11]), ([11], [11]), ([12, 10, 0, 1, 2, 3, 4, 5, 6, 7, 8, 9, 10, 11, 12], [12]), ([13, 14, 0, 1, 2, 3, 4, 5, 6, 7, 8, 9, 10, 11, 12, 13, 14], [13])])
def adjudicate_Score.B21 : List Nat := [0, 0, 2, 6, 0, 16, 48, 0, 128, 384, 1023, 2047, 4095, 4095, 8191, 32767]
theorem adjudicate_Score.tab21 : rtab .any (opsOf Try.f12 21) = adjudicate_Score.T21 := by kernel_rfl
theorem adjudicate_Score.bits21 : waitsOk adjudicate_Score.T21.2 adjudicate_Score.B21 = true := by kernel_rfl
set_option maxHeartbeats 8000000 in
set_option maxRecDepth 100000 in
theorem adjudicate_Score.calls (k : Nat) (a0_0 : Int) (a0_1 : Int) (a1_0 : Int) (A1_1 : Option Addr) (c1_1 : Nat) (l1_1 : List (S59)) (A2 : Option Addr) (c2 : Nat) (l2 : List (List Int)) (r1 : Int) (r2 : Int) (w : World) (hr1_1 : Kd.C k59 w A1_1 l1_1.length l1_1) (hc1_1 : l1_1.length ≤ c1_1) (hr2 : Kd.C (Kd.slice 3 (Kd.int .i64)) w A2 l2.length l2) (hc2 : l2.length ≤ c2) (h : adjudicate_Score.f k a0_0 a0_1 a1_0 l1_1 l2 = some (r1, r2)) :
  Calls Try.prog 12 #[.agg #[.int .i64 a0_0, .int .i64 a0_1], .agg #[.int .i64 a1_0, .slice A1_1 l1_1.length c1_1], .slice A2 l2.length c2] w fun e w' => e = .returned (.tuple #[.int .i64 r1, .int .i64 r2]) ∧ Below w.heap.size w w' := by
 have hu23 := Try.underlying23
 have hu26 := Try.underlying26
 have HR1_1 := Aside0.mk hr1_1
 have HC1_1 := Aside0.mk hc1_1
 clear hr1_1 hc1_1
 have HR2 := Aside0.mk hr2
 have HC2 := Aside0.mk hc2
 clear hr2 hc2
 have HB := Aside0.mk (Below.refl w.heap.size w)
 have H : ((adjudicate_Need.f k a0_0 a0_1 a1_0 l1_1 l2).bind fun bt178 => (if bt178.2 = 0 then (if bt178.1 > 0 then (some (0, 22)) else (if 0 < (l2.length : Int) then (if 1 < (l2.length : Int) then ((adjudicate_Agree.f k a0_0 a0_1 a1_0 l1_1 (rd_L1 l2 0) (rd_L1 l2 1)).bind fun bt182 => ((rubric_Total.f k a1_0 l1_1 (rd_L1 l2 0)).bind fun bt185 => ((rubric_Total.f k a1_0 l1_1 (rd_L1 l2 1)).bind fun bt188 => (adjudicate_Score.j0 k l2 bt182.1 bt185.1 bt188.1 ((l2.length : Int) == 2) a0_0 a0_1 a1_0 l1_1)))) else (none)) else (none))) else (some (0, bt178.2)))) = some (r1, r2) := h
 clear h
 replace H := Option.bind_eq_some_iff.mp H
 obtain ⟨⟨t178, t179⟩, A40, H⟩ := H
 replace H : (if t179 = 0 then (if t178 > 0 then (some (0, 22)) else (if 0 < (l2.length : Int) then (if 1 < (l2.length : Int) then ((adjudicate_Agree.f k a0_0 a0_1 a1_0 l1_1 (rd_L1 l2 0) (rd_L1 l2 1)).bind fun bt182 => ((rubric_Total.f k a1_0 l1_1 (rd_L1 l2 0)).bind fun bt185 => ((rubric_Total.f k a1_0 l1_1 (rd_L1 l2 1)).bind fun bt188 => (adjudicate_Score.j0 k l2 bt182.1 bt185.1 bt188.1 ((l2.length : Int) == 2) a0_0 a0_1 a1_0 l1_1)))) else (none)) else (none))) else (some (0, t179))) = some (r1, r2) := H
 have A4 := Aside0.mk A40
 clear A40
 by_cases c5 : t179 = 0
 ·
  rw [if_pos c5] at H
  have c5b0 : (t179 == 0) = true := beq_iff_eq.mpr c5
  have c5b1 : (t179 != 0) = false := bne_eq_false_iff_eq.mpr c5
  clear c5
  by_cases c6 : t178 > 0
  ·
   rw [if_pos c6] at H
   have c6b0 : decide (0 < t178) = true := decide_eq_true c6
   clear c6
   simp only [Option.some.injEq, Prod.mk.injEq] at H
   obtain ⟨rfl, rfl⟩ := H
   go_enter Try.func12, Try.ntmps12
   go_wp2_with (first | ((with_reducible refine gate_dst (N := 3) rfl ?_); refine box_event ?hg (N := 3) ?hd (cs := #[.int .i64 a0_0, .int .i64 a0_1]) (t := 23) ?hr ?_; (case hd => rfl); (case hg => rfl); (case hr => first | (go_simp; done) | (go_simp; rfl)); intro gb176 hg w7 hbox hb; have n0_ := Aside0.mk (below_step (Bw HB.out) hb); have n1_ := Aside0.mk (hbox); have n2_ := Aside0.mk (Gs hg (Bw HB.out)); have n3_ := Aside0.mk (Gs hg (Bw HB.out)); clear HB; have HB := n0_; have BK176 := n1_; have GW176 := n2_; have GE176 := n3_; clear n0_ n1_ n2_ n3_; clear hb hbox hg) | ((with_reducible refine gate_dst (N := 4) rfl ?_); refine box_event ?hg (N := 4) ?hd (cs := #[.int .i64 a1_0, .slice A1_1 l1_1.length c1_1]) (t := 26) ?hr ?_; (case hd => rfl); (case hg => rfl); (case hr => first | (go_simp; done) | (go_simp; rfl)); intro gb177 hg w8 hbox hb; have n0_ := Aside0.mk (blk_below (g := gb176) (o := .cells #[.int .i64 a0_0, .int .i64 a0_1] 23 (0, 0)) (Bk BK176.out) hb); have n1_ := Aside0.mk (below_step (Bw HB.out) hb); have n2_ := Aside0.mk (hbox); have n3_ := Aside0.mk (Gs hg (Bw HB.out)); have n4_ := Aside0.mk (Gs hg (Bw HB.out)); have n5_ := Aside0.mk ((by rw [hg]; exact Nat.ne_of_lt (blk_lt (g := gb176) (o := .cells #[.int .i64 a0_0, .int .i64 a0_1] 23 (0, 0)) (Bk BK176.out)) : gb176 ≠ gb177)); have n6_ := Aside0.mk ((by rw [hg]; exact Nat.ne_of_gt (blk_lt (g := gb176) (o := .cells #[.int .i64 a0_0, .int .i64 a0_1] 23 (0, 0)) (Bk BK176.out)) : gb177 ≠ gb176)); clear BK176; clear HB; have BK176 := n0_; have HB := n1_; have BK177 := n2_; have GW177 := n3_; have GE177 := n4_; have NB176_177 := n5_; have NB177_176 := n6_; clear n0_ n1_ n2_ n3_ n4_ n5_ n6_; clear hb hbox hg; have hnb9 := NB176_177.out; have hnc9 := NB177_176.out; have hcz10_0 : w8.cell? ⟨gb176, 0, none⟩ = some (.int .i64 a0_0) := (blk_cell BK176.out 0).trans rfl; have hcz10_1 : w8.cell? ⟨gb176, 1, none⟩ = some (.int .i64 a0_1) := (blk_cell BK176.out 1).trans rfl; have hfz10_0 := blk_frozen BK176.out 0; have hfz10_1 := blk_frozen BK176.out 1; have hcz11_0 : w8.cell? ⟨gb177, 0, none⟩ = some (.int .i64 a1_0) := (blk_cell BK177.out 0).trans rfl; have hcz11_1 : w8.cell? ⟨gb177, 1, none⟩ = some (.slice A1_1 l1_1.length c1_1) := (blk_cell BK177.out 1).trans rfl; have hfz11_0 := blk_frozen BK177.out 0; have hfz11_1 := blk_frozen BK177.out 1) | ((with_reducible refine gate_callee (f := 13) rfl ?_); refine goesL_ (some 26) rfl rfl Try.func13 (by kernel_rfl) rfl #[.agg #[.int .i64 a0_0, .int .i64 a0_1], .agg #[.int .i64 a1_0, .slice A1_1 l1_1.length c1_1], .slice A2 l2.length c2] rfl (by (try simp only [List.map_toArray, List.map_cons, List.map_nil]); first | done | rfl | (simp only [List.length_drop, List.length_take]; rfl)) ?_; (with_reducible refine (adjudicate_Need.calls k a0_0 a0_1 a1_0 _ _ l1_1 _ _ l2 t178 t179 _ ?side1 ?side2 ?side3 ?side4 A4.out).mono ?_); (case side1 => exact Ck (Kd.C_below HR1_1.out HB.out)); (case side2 => exact HC1_1.out); (case side3 => exact Ck (Kd.C_below HR2.out HB.out)); (case side4 => exact HC2.out); rintro e w12 ⟨rfl, hb⟩; refine ⟨_, rfl, ?_⟩; have n0_ := Aside0.mk (blk_below (g := gb176) (o := .cells #[.int .i64 a0_0, .int .i64 a0_1] 23 (0, 0)) (Bk BK176.out) hb); have n1_ := Aside0.mk (blk_below (g := gb177) (o := .cells #[.int .i64 a1_0, .slice A1_1 l1_1.length c1_1] 26 (0, 0)) (Bk BK177.out) hb); have n2_ := Aside0.mk (below_step (Bw HB.out) hb); clear BK176; clear BK177; clear HB; have BK176 := n0_; have BK177 := n1_; have HB := n2_; clear n0_ n1_ n2_; (try clear hb); (try clear hb2); (try clear hk); (try clear hi)))
   go_ret2
   exact ⟨Es, Bw HB.out⟩
  ·
   rw [if_neg c6] at H
   have c6b0 : decide (0 < t178) = false := decide_eq_false c6
   clear c6
   by_cases c13 : 0 < (l2.length : Int)
   ·
    rw [if_pos c13] at H
    have c13b0 : decide (0 < (l2.length : Int)) = true := decide_eq_true c13
    have c13b1 : decide (0 < l2.length) = true := decide_eq_true (by omega)
    clear c13
    by_cases c14 : 1 < (l2.length : Int)
    ·
     rw [if_pos c14] at H
     have c14b0 : decide (1 < (l2.length : Int)) = true := decide_eq_true c14
     have c14b1 : decide (1 < l2.length) = true := decide_eq_true (by omega)
     clear c14
     replace H := Option.bind_eq_some_iff.mp H
     obtain ⟨⟨t182, t183⟩, A150, H⟩ := H
     replace H : ((rubric_Total.f k a1_0 l1_1 (rd_L1 l2 0)).bind fun bt185 => ((rubric_Total.f k a1_0 l1_1 (rd_L1 l2 1)).bind fun bt188 => (adjudicate_Score.j0 k l2 t182 bt185.1 bt188.1 ((l2.length : Int) == 2) a0_0 a0_1 a1_0 l1_1))) = some (r1, r2) := H
     have A15 := Aside0.mk A150
     clear A150
     replace H := Option.bind_eq_some_iff.mp H
     obtain ⟨⟨t185, t186⟩, A160, H⟩ := H
     replace H : ((rubric_Total.f k a1_0 l1_1 (rd_L1 l2 1)).bind fun bt188 => (adjudicate_Score.j0 k l2 t182 t185 bt188.1 ((l2.length : Int) == 2) a0_0 a0_1 a1_0 l1_1)) = some (r1, r2) := H
     have A16 := Aside0.mk A160
     clear A160
     replace H := Option.bind_eq_some_iff.mp H
     obtain ⟨⟨t188, t189⟩, A170, H⟩ := H
     replace H : (adjudicate_Score.j0 k l2 t182 t185 t188 ((l2.length : Int) == 2) a0_0 a0_1 a1_0 l1_1) = some (r1, r2) := H
     have A17 := Aside0.mk A170
     clear A170
     have HC18 := Aside0.mk H
     clear H
     go_enter Try.func12, Try.ntmps12
     try go_wp2_with (first | ((with_reducible refine gate_dst (N := 3) rfl ?_); refine box_event ?hg (N := 3) ?hd (cs := #[.int .i64 a0_0, .int .i64 a0_1]) (t := 23) ?hr ?_; (case hd => rfl); (case hg => rfl); (case hr => first | (go_simp; done) | (go_simp; rfl)); intro gb176 hg w19 hbox hb; have n0_ := Aside0.mk (below_step (Bw HB.out) hb); have n1_ := Aside0.mk (hbox); have n2_ := Aside0.mk (Gs hg (Bw HB.out)); have n3_ := Aside0.mk (Gs hg (Bw HB.out)); clear HB; have HB := n0_; have BK176 := n1_; have GW176 := n2_; have GE176 := n3_; clear n0_ n1_ n2_ n3_; clear hb hbox hg) | ((with_reducible refine gate_dst (N := 4) rfl ?_); refine box_event ?hg (N := 4) ?hd (cs := #[.int .i64 a1_0, .slice A1_1 l1_1.length c1_1]) (t := 26) ?hr ?_; (case hd => rfl); (case hg => rfl); (case hr => first | (go_simp; done) | (go_simp; rfl)); intro gb177 hg w20 hbox hb; have n0_ := Aside0.mk (blk_below (g := gb176) (o := .cells #[.int .i64 a0_0, .int .i64 a0_1] 23 (0, 0)) (Bk BK176.out) hb); have n1_ := Aside0.mk (below_step (Bw HB.out) hb); have n2_ := Aside0.mk (hbox); have n3_ := Aside0.mk (Gs hg (Bw HB.out)); have n4_ := Aside0.mk (Gs hg (Bw HB.out)); have n5_ := Aside0.mk ((by rw [hg]; exact Nat.ne_of_lt (blk_lt (g := gb176) (o := .cells #[.int .i64 a0_0, .int .i64 a0_1] 23 (0, 0)) (Bk BK176.out)) : gb176 ≠ gb177)); have n6_ := Aside0.mk ((by rw [hg]; exact Nat.ne_of_gt (blk_lt (g := gb176) (o := .cells #[.int .i64 a0_0, .int .i64 a0_1] 23 (0, 0)) (Bk BK176.out)) : gb177 ≠ gb176)); clear BK176; clear HB; have BK176 := n0_; have HB := n1_; have BK177 := n2_; have GW177 := n3_; have GE177 := n4_; have NB176_177 := n5_; have NB177_176 := n6_; clear n0_ n1_ n2_ n3_ n4_ n5_ n6_; clear hb hbox hg; have hnb21 := NB176_177.out; have hnc21 := NB177_176.out; have hcz22_0 : w20.cell? ⟨gb176, 0, none⟩ = some (.int .i64 a0_0) := (blk_cell BK176.out 0).trans rfl; have hcz22_1 : w20.cell? ⟨gb176, 1, none⟩ = some (.int .i64 a0_1) := (blk_cell BK176.out 1).trans rfl; have hfz22_0 := blk_frozen BK176.out 0; have hfz22_1 := blk_frozen BK176.out 1; have hcz23_0 : w20.cell? ⟨gb177, 0, none⟩ = some (.int .i64 a1_0) := (blk_cell BK177.out 0).trans rfl; have hcz23_1 : w20.cell? ⟨gb177, 1, none⟩ = some (.slice A1_1 l1_1.length c1_1) := (blk_cell BK177.out 1).trans rfl; have hfz23_0 := blk_frozen BK177.out 0; have hfz23_1 := blk_frozen BK177.out 1) | ((with_reducible refine gate_callee (f := 13) rfl ?_); refine goesL_ (some 26) rfl rfl Try.func13 (by kernel_rfl) rfl #[.agg #[.int .i64 a0_0, .int .i64 a0_1], .agg #[.int .i64 a1_0, .slice A1_1 l1_1.length c1_1], .slice A2 l2.length c2] rfl (by (try simp only [List.map_toArray, List.map_cons, List.map_nil]); first | done | rfl | (simp only [List.length_drop, List.length_take]; rfl)) ?_; (with_reducible refine (adjudicate_Need.calls k a0_0 a0_1 a1_0 _ _ l1_1 _ _ l2 t178 t179 _ ?side1 ?side2 ?side3 ?side4 A4.out).mono ?_); (case side1 => exact Ck (Kd.C_below HR1_1.out HB.out)); (case side2 => exact HC1_1.out); (case side3 => exact Ck (Kd.C_below HR2.out HB.out)); (case side4 => exact HC2.out); rintro e w24 ⟨rfl, hb⟩; refine ⟨_, rfl, ?_⟩; have n0_ := Aside0.mk (blk_below (g := gb176) (o := .cells #[.int .i64 a0_0, .int .i64 a0_1] 23 (0, 0)) (Bk BK176.out) hb); have n1_ := Aside0.mk (blk_below (g := gb177) (o := .cells #[.int .i64 a1_0, .slice A1_1 l1_1.length c1_1] 26 (0, 0)) (Bk BK177.out) hb); have n2_ := Aside0.mk (below_step (Bw HB.out) hb); clear BK176; clear BK177; clear HB; have BK176 := n0_; have BK177 := n1_; have HB := n2_; clear n0_ n1_ n2_; (try clear hb); (try clear hb2); (try clear hk); (try clear hi)))
     have n0_ := Aside0.mk (blk_drew BK176.out)
     have n1_ := Aside0.mk (blk_drew BK177.out)
     have n2_ := Aside0.mk (below_drew1 HB.out)
     clear BK176
     clear BK177
     clear HB
     have BK176 := n0_
     have BK177 := n1_
     have HB := n2_
     clear n0_ n1_ n2_
     have p180 : 0 ≤ (0 : Int) := (by omega)
     have q180 : 0 < (l2.length : Int) := of_decide_eq_true (by first | (with_reducible assumption) | assumption)
     obtain ⟨ad180, A180_0, c180_0, e180, hx180_0, hl180_0, hi180_0⟩ := at_L1 HR2.out 0 p180 q180
     have hw180_0 := hx180_0
     (try rw [show ((0 : Int)).toNat = 0 from rfl] at hw180_0)
     (try rw [show 0 * 1 = 0 from rfl] at hw180_0)
     (try rw [Addr.add_zero'] at hw180_0)
     cases e180
     have qi180 : (0 < l2.length) = True := eq_true (by omega)
     (try rw [show ((0 : Int)).toNat = 0 from rfl] at hx180_0)
     (try rw [Addr.add_zero'] at hx180_0)
     replace hx180_0 := (HB.out.cell (World.block_lt_of_cell? w _ hx180_0)).trans hx180_0
     have HR180_0 := Aside0.mk hi180_0
     have HC180_0 := Aside0.mk hl180_0
     clear hi180_0 hl180_0
     replace p180 := eq_true p180
     replace q180 := eq_true q180
     have p181 : 0 ≤ (1 : Int) := (by omega)
     have q181 : 1 < (l2.length : Int) := of_decide_eq_true (by first | (with_reducible assumption) | assumption)
     obtain ⟨ad181, A181_0, c181_0, e181, hx181_0, hl181_0, hi181_0⟩ := at_L1 HR2.out 1 p181 q181
     have hw181_0 := hx181_0
     (try rw [show ((1 : Int)).toNat = 1 from rfl] at hw181_0)
     (try rw [show 1 * 1 = 1 from rfl] at hw181_0)
     (try simp only [Nat.reduceMul, Nat.reduceEqDiff, Go.Addr.add, ↓reduceIte] at hw181_0)
     obtain rfl : ad180 = ad181 := (by injection e181)
     (try simp only [show (1 : Int).toNat = 1 from rfl, Nat.reduceMul, Nat.reduceEqDiff, Go.Addr.add, ↓reduceIte] at hx181_0)
     have qi181 : (1 < l2.length) = True := eq_true (by omega)
     (try rw [show ((1 : Int)).toNat = 1 from rfl] at hx181_0)
     replace hx181_0 := (HB.out.cell (World.block_lt_of_cell? w _ hx181_0)).trans hx181_0
     have HR181_0 := Aside0.mk hi181_0
     have HC181_0 := Aside0.mk hl181_0
     clear hi181_0 hl181_0
     replace p181 := eq_true p181
     replace q181 := eq_true q181
     refine start_ (n := 14) (S := fun w' => w'.cell? ⟨gb176, 0, none⟩ = some (.int .i64 a0_0) ∧ w'.cell? ⟨gb176, 1, none⟩ = some (.int .i64 a0_1) ∧ w'.cell? ⟨gb177, 0, none⟩ = some (.int .i64 a1_0) ∧ w'.cell? ⟨gb177, 1, none⟩ = some (.slice A1_1 l1_1.length c1_1) ∧ w'.cell? ad180 = some (.slice A180_0 (rd_L1 l2 0).length c180_0) ∧ w'.cell? ⟨ad180.block, ad180.off + 1, none⟩ = some (.slice A181_0 (rd_L1 l2 1).length c181_0)) (ds := []) #[Z,Z,Z,Z,Z,Z,Z,Z,Z,Z,Z,Z,Z,Z] (by kernel_rfl) rfl rfl ⟨(blk_cell BK176.out 0).trans rfl, (blk_cell BK176.out 1).trans rfl, (blk_cell BK177.out 0).trans rfl, (blk_cell BK177.out 1).trans rfl, ((HB.out.cell (World.block_lt_of_cell? w _ hw180_0)).trans hw180_0), ((HB.out.cell (World.block_lt_of_cell? w _ hw181_0)).trans hw181_0)⟩ (fun hHeld => ?_); refine with_tabW adjudicate_Score.tab6 adjudicate_Score.bits6 (fun HT_ HW_ => ?_)
     generalize w24.drew = w25 at BK176 BK177 HB HR180_0 HR181_0 hx180_0 hx181_0 hHeld ⊢
     refine pu (i := 2) (N := some 37) #[Z,Z,Y,Z,Z,Z,Z,Z,Z,Z,Z,Z,Z,Z] rfl rfl (any_of HT_.out (by kernel_rfl)) ?_
     refine pu (i := 3) (N := some 38) #[Z,Z,Y,Y,Z,Z,Z,Z,Z,Z,Z,Z,Z,Z] rfl rfl (any_of HT_.out (by kernel_rfl)) ?_
     refine pu (i := 5) (N := some 40) #[Z,Z,Y,Y,Z,Y,Z,Z,Z,Z,Z,Z,Z,Z] rfl rfl (any_of HT_.out (by kernel_rfl)) ?_
     refine pu (i := 6) (N := some 41) #[Z,Z,Y,Y,Z,Y,Y,Z,Z,Z,Z,Z,Z,Z] rfl rfl (any_of HT_.out (by kernel_rfl)) ?_
     refine take_ (i := 0) (N := some 35) (v := ?_) (a' := ?_) #[Y,Z,Y,Y,Z,Y,Y,Z,Z,Z,Z,Z,Z,Z] rfl rfl (take_ofW HT_.out HW_.out (by kernel_rfl)) (fun _ _ _ h => h) (Or.inl ⟨by rfl, ?_⟩) hHeld ?_ ?_
     rotate_left
     ·
      rintro w' ⟨s0, s1, s2, s3, s4, s5⟩
      go_simp
      with_reducible rfl
     rotate_left
     ·
      simp only [Act.put, List.setIfInBounds_toArray, List.set_cons_zero, List.set_cons_succ, i64_w, i32_w]
      rfl
     refine take_ (i := 1) (N := some 36) (v := ?_) (a' := ?_) #[Y,Y,Y,Y,Z,Y,Y,Z,Z,Z,Z,Z,Z,Z] rfl rfl (take_ofW HT_.out HW_.out (by kernel_rfl)) (fun _ _ _ h => h) (Or.inl ⟨by rfl, ?_⟩) hHeld ?_ ?_
     rotate_left
     ·
      rintro w' ⟨s0, s1, s2, s3, s4, s5⟩
      go_simp
      with_reducible rfl
     rotate_left
     ·
      simp only [Act.put, List.setIfInBounds_toArray, List.set_cons_zero, List.set_cons_succ, i64_w, i32_w]
      rfl
     refine take_ (i := 4) (N := some 39) (v := ?_) (a' := ?_) #[Y,Y,Y,Y,Y,Y,Y,Z,Z,Z,Z,Z,Z,Z] rfl rfl (take_ofW HT_.out HW_.out (by kernel_rfl)) (fun _ _ _ h => h) (Or.inl ⟨by rfl, ?_⟩) hHeld ?_ ?_
     rotate_left
     ·
      rintro w' ⟨s0, s1, s2, s3, s4, s5⟩
      go_simp
      with_reducible rfl
     rotate_left
     ·
      simp only [Act.put, List.setIfInBounds_toArray, List.set_cons_zero, List.set_cons_succ, i64_w, i32_w]
      rfl
     refine take_ (i := 7) (N := some 42) (v := ?_) (a' := ?_) #[Y,Y,Y,Y,Y,Y,Y,Y,Z,Z,Z,Z,Z,Z] rfl rfl (take_ofW HT_.out HW_.out (by kernel_rfl)) (fun _ _ _ h => h) (Or.inl ⟨by rfl, ?_⟩) hHeld ?_ ?_
     rotate_left
     ·
      rintro w' ⟨s0, s1, s2, s3, s4, s5⟩
      go_simp
      with_reducible rfl
     rotate_left
     ·
      simp only [Act.put, List.setIfInBounds_toArray, List.set_cons_zero, List.set_cons_succ, i64_w, i32_w]
      rfl
     refine one_ (i := 8) (N := some 43) #[true, true, true, true, true, true, true, true, true, false, false, false, false, false] rfl rfl (one_of HT_.out (by kernel_rfl)) (by decide) (fun K hK => ?_)
     refine goes_ Try.func14 (by kernel_rfl) rfl #[.agg #[.int .i64 a0_0, .int .i64 a0_1], .agg #[.int .i64 a1_0, .slice A1_1 l1_1.length c1_1], .slice A180_0 (rd_L1 l2 0).length c180_0, .slice A181_0 (rd_L1 l2 1).length c181_0] (by rfl) rfl rfl (by (try simp only [List.map_toArray, List.map_cons, List.map_nil]); first | done | rfl | (simp only [List.length_drop, List.length_take]; rfl)) ?_
     with_reducible refine (adjudicate_Agree.calls k a0_0 a0_1 a1_0 _ _ l1_1 _ _ (rd_L1 l2 0) _ _ (rd_L1 l2 1) t182 t183 _ ?side1 ?side2 ?side3 ?side4 ?side5 ?side6 A15.out).mono ?_
     (case side1 => exact Ck (Kd.C_below HR1_1.out HB.out))
     (case side2 => exact HC1_1.out)
     (case side3 => exact Ck (Kd.C_below HR180_0.out HB.out))
     (case side4 => exact HC180_0.out)
     (case side5 => exact Ck (Kd.C_below HR181_0.out HB.out))
     (case side6 => exact HC181_0.out)
     rintro e w26 ⟨rfl, hb⟩
     refine ⟨_, rfl, ?_⟩
     have n0_ := Aside0.mk (blk_below (g := gb176) (o := .cells #[.int .i64 a0_0, .int .i64 a0_1] 23 (0, 0)) (Bk BK176.out) hb)
     have n1_ := Aside0.mk (blk_below (g := gb177) (o := .cells #[.int .i64 a1_0, .slice A1_1 l1_1.length c1_1] 26 (0, 0)) (Bk BK177.out) hb)
     have n2_ := Aside0.mk (below_step (Bw HB.out) hb)
     clear BK176
     clear BK177
     clear HB
     have BK176 := n0_
     have BK177 := n1_
     have HB := n2_
     clear n0_ n1_ n2_
     (try clear hb)
     (try clear hb2)
     (try clear hk)
     (try clear hi)
     refine hK.out _ _ ⟨(blk_cell BK176.out 0).trans rfl, (blk_cell BK176.out 1).trans rfl, (blk_cell BK177.out 0).trans rfl, (blk_cell BK177.out 1).trans rfl, ((HB.out.cell (World.block_lt_of_cell? w _ hw180_0)).trans hw180_0), ((HB.out.cell (World.block_lt_of_cell? w _ hw181_0)).trans hw181_0)⟩ (fun hHeld => ?_)
     clear hK K
     refine norm_ (a' := ?_) ?_ ?_
     rotate_left
     ·
      show Act.put _ (some 43) _ = _
      simp only [Act.put, List.setIfInBounds_toArray, List.set_cons_zero, List.set_cons_succ, i64_w, i32_w]
      rfl
     refine pu (i := 9) (N := some 34) #[Y,Y,Y,Y,Y,Y,Y,Y,Y,Y,Z,Z,Z,Z] rfl rfl (any_of HT_.out (by kernel_rfl)) ?_
     refine pu (i := 10) (N := some 44) #[Y,Y,Y,Y,Y,Y,Y,Y,Y,Y,Y,Z,Z,Z] rfl rfl (any_of HT_.out (by kernel_rfl)) ?_
     refine pu (i := 11) (N := some 45) #[Y,Y,Y,Y,Y,Y,Y,Y,Y,Y,Y,Y,Z,Z] rfl rfl (any_of HT_.out (by kernel_rfl)) ?_
     refine pu (i := 12) (N := some 10) #[Y,Y,Y,Y,Y,Y,Y,Y,Y,Y,Y,Y,Y,Z] rfl rfl (any_of HT_.out (by kernel_rfl)) ?_
     refine pu (i := 13) (N := some 11) #[Y,Y,Y,Y,Y,Y,Y,Y,Y,Y,Y,Y,Y,Y] rfl rfl (any_of HT_.out (by kernel_rfl)) ?_
     refine done_ (done_of HT_.out (by kernel_rfl)) ?_
     try go_wp2
     have n0_ := Aside0.mk (blk_drew BK176.out)
     have n1_ := Aside0.mk (blk_drew BK177.out)
     have n2_ := Aside0.mk (below_drew1 HB.out)
     clear BK176
     clear BK177
     clear HB
     have BK176 := n0_
     have BK177 := n1_
     have HB := n2_
     clear n0_ n1_ n2_
     have p184 : 0 ≤ (0 : Int) := (by omega)
     have q184 : 0 < (l2.length : Int) := of_decide_eq_true (by first | (with_reducible assumption) | assumption)
     obtain ⟨ad184, A184_0, c184_0, e184, hx184_0, hl184_0, hi184_0⟩ := at_L1 HR2.out 0 p184 q184
     have hw184_0 := hx184_0
     (try rw [show ((0 : Int)).toNat = 0 from rfl] at hw184_0)
     (try rw [show 0 * 1 = 0 from rfl] at hw184_0)
     (try rw [Addr.add_zero'] at hw184_0)
     obtain rfl : ad180 = ad184 := (by injection e184)
     have qi184 : (0 < l2.length) = True := eq_true (by omega)
     (try rw [show ((0 : Int)).toNat = 0 from rfl] at hx184_0)
     (try rw [Addr.add_zero'] at hx184_0)
     replace hx184_0 := (HB.out.cell (World.block_lt_of_cell? w _ hx184_0)).trans hx184_0
     have HR184_0 := Aside0.mk hi184_0
     have HC184_0 := Aside0.mk hl184_0
     clear hi184_0 hl184_0
     replace p184 := eq_true p184
     replace q184 := eq_true q184
     refine start_ (n := 10) (S := fun w' => w'.cell? ⟨gb177, 0, none⟩ = some (.int .i64 a1_0) ∧ w'.cell? ⟨gb177, 1, none⟩ = some (.slice A1_1 l1_1.length c1_1) ∧ w'.cell? ad180 = some (.slice A184_0 (rd_L1 l2 0).length c184_0)) (ds := []) #[Z,Z,Z,Z,Z,Z,Z,Z,Z,Z] (by kernel_rfl) rfl rfl ⟨(blk_cell BK177.out 0).trans rfl, (blk_cell BK177.out 1).trans rfl, ((HB.out.cell (World.block_lt_of_cell? w _ hw184_0)).trans hw184_0)⟩ (fun hHeld => ?_); refine with_tabW adjudicate_Score.tab7 adjudicate_Score.bits7 (fun HT_ HW_ => ?_)
     generalize w26.drew = w27 at BK176 BK177 HB HR184_0 hx184_0 hHeld ⊢
     refine pu (i := 1) (N := some 48) #[Z,Y,Z,Z,Z,Z,Z,Z,Z,Z] rfl rfl (any_of HT_.out (by kernel_rfl)) ?_
     refine pu (i := 2) (N := some 49) #[Z,Y,Y,Z,Z,Z,Z,Z,Z,Z] rfl rfl (any_of HT_.out (by kernel_rfl)) ?_
     refine take_ (i := 0) (N := some 47) (v := ?_) (a' := ?_) #[Y,Y,Y,Z,Z,Z,Z,Z,Z,Z] rfl rfl (take_ofW HT_.out HW_.out (by kernel_rfl)) (fun _ _ _ h => h) (Or.inl ⟨by rfl, ?_⟩) hHeld ?_ ?_
     rotate_left
     ·
      rintro w' ⟨s0, s1, s2⟩
      go_simp
      with_reducible rfl
     rotate_left
     ·
      simp only [Act.put, List.setIfInBounds_toArray, List.set_cons_zero, List.set_cons_succ, i64_w, i32_w]
      rfl
     refine take_ (i := 3) (N := some 50) (v := ?_) (a' := ?_) #[Y,Y,Y,Y,Z,Z,Z,Z,Z,Z] rfl rfl (take_ofW HT_.out HW_.out (by kernel_rfl)) (fun _ _ _ h => h) (Or.inl ⟨by rfl, ?_⟩) hHeld ?_ ?_
     rotate_left
     ·
      rintro w' ⟨s0, s1, s2⟩
      go_simp
      with_reducible rfl
     rotate_left
     ·
      simp only [Act.put, List.setIfInBounds_toArray, List.set_cons_zero, List.set_cons_succ, i64_w, i32_w]
      rfl
     refine one_ (i := 4) (N := some 51) #[true, true, true, true, true, false, false, false, false, false] rfl rfl (one_of HT_.out (by kernel_rfl)) (by decide) (fun K hK => ?_)
     refine goes_ Try.func15 (by kernel_rfl) rfl #[.agg #[.int .i64 a1_0, .slice A1_1 l1_1.length c1_1], .slice A184_0 (rd_L1 l2 0).length c184_0] (by rfl) rfl rfl (by (try simp only [List.map_toArray, List.map_cons, List.map_nil]); first | done | rfl | (simp only [List.length_drop, List.length_take]; rfl)) ?_
     with_reducible refine (rubric_Total.calls k a1_0 _ _ l1_1 _ _ (rd_L1 l2 0) t185 t186 _ ?side1 ?side2 ?side3 ?side4 A16.out).mono ?_
     (case side1 => exact Ck (Kd.C_below HR1_1.out HB.out))
     (case side2 => exact HC1_1.out)
     (case side3 => exact Ck (Kd.C_below HR184_0.out HB.out))
     (case side4 => exact HC184_0.out)
     rintro e w28 ⟨rfl, hb⟩
     refine ⟨_, rfl, ?_⟩
     have n0_ := Aside0.mk (blk_below (g := gb176) (o := .cells #[.int .i64 a0_0, .int .i64 a0_1] 23 (0, 0)) (Bk BK176.out) hb)
     have n1_ := Aside0.mk (blk_below (g := gb177) (o := .cells #[.int .i64 a1_0, .slice A1_1 l1_1.length c1_1] 26 (0, 0)) (Bk BK177.out) hb)
     have n2_ := Aside0.mk (below_step (Bw HB.out) hb)
     clear BK176
     clear BK177
     clear HB
     have BK176 := n0_
     have BK177 := n1_
     have HB := n2_
     clear n0_ n1_ n2_
     (try clear hb)
     (try clear hb2)
     (try clear hk)
     (try clear hi)
     refine hK.out _ _ ⟨(blk_cell BK177.out 0).trans rfl, (blk_cell BK177.out 1).trans rfl, ((HB.out.cell (World.block_lt_of_cell? w _ hw184_0)).trans hw184_0)⟩ (fun hHeld => ?_)
     clear hK K
     refine norm_ (a' := ?_) ?_ ?_
     rotate_left
     ·
      show Act.put _ (some 51) _ = _
      simp only [Act.put, List.setIfInBounds_toArray, List.set_cons_zero, List.set_cons_succ, i64_w, i32_w]
      rfl
     refine pu (i := 5) (N := some 46) #[Y,Y,Y,Y,Y,Y,Z,Z,Z,Z] rfl rfl (any_of HT_.out (by kernel_rfl)) ?_
     refine pu (i := 6) (N := some 52) #[Y,Y,Y,Y,Y,Y,Y,Z,Z,Z] rfl rfl (any_of HT_.out (by kernel_rfl)) ?_
     refine pu (i := 7) (N := some 53) #[Y,Y,Y,Y,Y,Y,Y,Y,Z,Z] rfl rfl (any_of HT_.out (by kernel_rfl)) ?_
     refine pu (i := 8) (N := some 12) #[Y,Y,Y,Y,Y,Y,Y,Y,Y,Z] rfl rfl (any_of HT_.out (by kernel_rfl)) ?_
     refine pu (i := 9) (N := some 13) #[Y,Y,Y,Y,Y,Y,Y,Y,Y,Y] rfl rfl (any_of HT_.out (by kernel_rfl)) ?_
     refine done_ (done_of HT_.out (by kernel_rfl)) ?_
     try go_wp2
     have n0_ := Aside0.mk (blk_drew BK176.out)
     have n1_ := Aside0.mk (blk_drew BK177.out)
     have n2_ := Aside0.mk (below_drew1 HB.out)
     clear BK176
     clear BK177
     clear HB
     have BK176 := n0_
     have BK177 := n1_
     have HB := n2_
     clear n0_ n1_ n2_
     have p187 : 0 ≤ (1 : Int) := (by omega)
     have q187 : 1 < (l2.length : Int) := of_decide_eq_true (by first | (with_reducible assumption) | assumption)
     obtain ⟨ad187, A187_0, c187_0, e187, hx187_0, hl187_0, hi187_0⟩ := at_L1 HR2.out 1 p187 q187
     have hw187_0 := hx187_0
     (try rw [show ((1 : Int)).toNat = 1 from rfl] at hw187_0)
     (try rw [show 1 * 1 = 1 from rfl] at hw187_0)
     (try simp only [Nat.reduceMul, Nat.reduceEqDiff, Go.Addr.add, ↓reduceIte] at hw187_0)
     obtain rfl : ad180 = ad187 := (by injection e187)
     (try simp only [show (1 : Int).toNat = 1 from rfl, Nat.reduceMul, Nat.reduceEqDiff, Go.Addr.add, ↓reduceIte] at hx187_0)
     have qi187 : (1 < l2.length) = True := eq_true (by omega)
     (try rw [show ((1 : Int)).toNat = 1 from rfl] at hx187_0)
     replace hx187_0 := (HB.out.cell (World.block_lt_of_cell? w _ hx187_0)).trans hx187_0
     have HR187_0 := Aside0.mk hi187_0
     have HC187_0 := Aside0.mk hl187_0
     clear hi187_0 hl187_0
     replace p187 := eq_true p187
     replace q187 := eq_true q187
     refine start_ (n := 10) (S := fun w' => w'.cell? ⟨gb177, 0, none⟩ = some (.int .i64 a1_0) ∧ w'.cell? ⟨gb177, 1, none⟩ = some (.slice A1_1 l1_1.length c1_1) ∧ w'.cell? ⟨ad180.block, ad180.off + 1, none⟩ = some (.slice A187_0 (rd_L1 l2 1).length c187_0)) (ds := []) #[Z,Z,Z,Z,Z,Z,Z,Z,Z,Z] (by kernel_rfl) rfl rfl ⟨(blk_cell BK177.out 0).trans rfl, (blk_cell BK177.out 1).trans rfl, ((HB.out.cell (World.block_lt_of_cell? w _ hw187_0)).trans hw187_0)⟩ (fun hHeld => ?_); refine with_tabW adjudicate_Score.tab8 adjudicate_Score.bits8 (fun HT_ HW_ => ?_)
     generalize w28.drew = w29 at BK176 BK177 HB HR187_0 hx187_0 hHeld ⊢
     refine pu (i := 1) (N := some 56) #[Z,Y,Z,Z,Z,Z,Z,Z,Z,Z] rfl rfl (any_of HT_.out (by kernel_rfl)) ?_
     refine pu (i := 2) (N := some 57) #[Z,Y,Y,Z,Z,Z,Z,Z,Z,Z] rfl rfl (any_of HT_.out (by kernel_rfl)) ?_
     refine take_ (i := 0) (N := some 55) (v := ?_) (a' := ?_) #[Y,Y,Y,Z,Z,Z,Z,Z,Z,Z] rfl rfl (take_ofW HT_.out HW_.out (by kernel_rfl)) (fun _ _ _ h => h) (Or.inl ⟨by rfl, ?_⟩) hHeld ?_ ?_
     rotate_left
     ·
      rintro w' ⟨s0, s1, s2⟩
      go_simp
      with_reducible rfl
     rotate_left
     ·
      simp only [Act.put, List.setIfInBounds_toArray, List.set_cons_zero, List.set_cons_succ, i64_w, i32_w]
      rfl
     refine take_ (i := 3) (N := some 58) (v := ?_) (a' := ?_) #[Y,Y,Y,Y,Z,Z,Z,Z,Z,Z] rfl rfl (take_ofW HT_.out HW_.out (by kernel_rfl)) (fun _ _ _ h => h) (Or.inl ⟨by rfl, ?_⟩) hHeld ?_ ?_
     rotate_left
     ·
      rintro w' ⟨s0, s1, s2⟩
      go_simp
      with_reducible rfl
     rotate_left
     ·
      simp only [Act.put, List.setIfInBounds_toArray, List.set_cons_zero, List.set_cons_succ, i64_w, i32_w]
      rfl
     refine one_ (i := 4) (N := some 59) #[true, true, true, true, true, false, false, false, false, false] rfl rfl (one_of HT_.out (by kernel_rfl)) (by decide) (fun K hK => ?_)
     refine goes_ Try.func15 (by kernel_rfl) rfl #[.agg #[.int .i64 a1_0, .slice A1_1 l1_1.length c1_1], .slice A187_0 (rd_L1 l2 1).length c187_0] (by rfl) rfl rfl (by (try simp only [List.map_toArray, List.map_cons, List.map_nil]); first | done | rfl | (simp only [List.length_drop, List.length_take]; rfl)) ?_
     with_reducible refine (rubric_Total.calls k a1_0 _ _ l1_1 _ _ (rd_L1 l2 1) t188 t189 _ ?side1 ?side2 ?side3 ?side4 A17.out).mono ?_
     (case side1 => exact Ck (Kd.C_below HR1_1.out HB.out))
     (case side2 => exact HC1_1.out)
     (case side3 => exact Ck (Kd.C_below HR187_0.out HB.out))
     (case side4 => exact HC187_0.out)
     rintro e w30 ⟨rfl, hb⟩
     refine ⟨_, rfl, ?_⟩
     have n0_ := Aside0.mk (blk_below (g := gb176) (o := .cells #[.int .i64 a0_0, .int .i64 a0_1] 23 (0, 0)) (Bk BK176.out) hb)
     have n1_ := Aside0.mk (blk_below (g := gb177) (o := .cells #[.int .i64 a1_0, .slice A1_1 l1_1.length c1_1] 26 (0, 0)) (Bk BK177.out) hb)
     have n2_ := Aside0.mk (below_step (Bw HB.out) hb)
     clear BK176
     clear BK177
     clear HB
     have BK176 := n0_
     have BK177 := n1_
     have HB := n2_
     clear n0_ n1_ n2_
     (try clear hb)
     (try clear hb2)
     (try clear hk)
     (try clear hi)
     refine hK.out _ _ ⟨(blk_cell BK177.out 0).trans rfl, (blk_cell BK177.out 1).trans rfl, ((HB.out.cell (World.block_lt_of_cell? w _ hw187_0)).trans hw187_0)⟩ (fun hHeld => ?_)
     clear hK K
     refine norm_ (a' := ?_) ?_ ?_
     rotate_left
     ·
      show Act.put _ (some 59) _ = _
      simp only [Act.put, List.setIfInBounds_toArray, List.set_cons_zero, List.set_cons_succ, i64_w, i32_w]
      rfl
     refine pu (i := 5) (N := some 54) #[Y,Y,Y,Y,Y,Y,Z,Z,Z,Z] rfl rfl (any_of HT_.out (by kernel_rfl)) ?_
     refine pu (i := 6) (N := some 60) #[Y,Y,Y,Y,Y,Y,Y,Z,Z,Z] rfl rfl (any_of HT_.out (by kernel_rfl)) ?_
     refine pu (i := 7) (N := some 61) #[Y,Y,Y,Y,Y,Y,Y,Y,Z,Z] rfl rfl (any_of HT_.out (by kernel_rfl)) ?_
     refine pu (i := 8) (N := some 14) #[Y,Y,Y,Y,Y,Y,Y,Y,Y,Z] rfl rfl (any_of HT_.out (by kernel_rfl)) ?_
     refine pu (i := 9) (N := some 15) #[Y,Y,Y,Y,Y,Y,Y,Y,Y,Y] rfl rfl (any_of HT_.out (by kernel_rfl)) ?_
     refine done_ (done_of HT_.out (by kernel_rfl)) ?_
     go_upto_region 9 with (fail)
     go_cut [64] (fun v64 wc => ∃ (kq : Nat) (x64_17 : Bool), v64 = .bool x64_17 ∧ Aside0 (adjudicate_Score.j0 kq l2 t182 t185 t188 x64_17 a0_0 a0_1 a1_0 l1_1 = some (r1, r2)) ∧ Aside0 (kq ≤ k) ∧ Aside0 (wc.heap[gb176]? = some (.cells #[.int .i64 a0_0, .int .i64 a0_1] 23 (0, 0))) ∧ Aside0 (wc.heap[gb177]? = some (.cells #[.int .i64 a1_0, (.slice A1_1 l1_1.length c1_1)] 26 (0, 0))) ∧ Aside0 (Below w.heap.size w wc))
     case first =>
      have H := HC18.out
      clear HC18
      have H' := Aside0.mk H
      clear H
      go_wp2
      go_meet
      case rel => exact ⟨_, (((l2.length : Int) == 2)), (by first | rfl | (simp; done) | (simp [*]; done)), H', ⟨by first | omega | exact Nat.le_refl _⟩, ⟨Bk BK176.out⟩, ⟨Bk BK177.out⟩, ⟨Bw HB.out⟩⟩
     case rest =>
      clear HC18
      (try clear c1); (try clear p1); (try clear q1); (try clear hx1); (try clear qi1); (try clear c2); (try clear p2); (try clear c5); (try clear c5b0); (try clear c5b1); (try clear c6); (try clear c6b0); (try clear c9); (try clear c12); (try clear c13); (try clear c13b0); (try clear c13b1); (try clear c14); (try clear c14b0); (try clear c14b1); (try clear c15); (try clear c18); (try clear p18); (try clear q18); (try clear hx18); (try clear qi18); (try clear c21); (try clear hcz10_0); (try clear hcz10_1); (try clear hcz11_0); (try clear hcz11_1); (try clear hcz22_0); (try clear hcz22_1); (try clear hcz23_0); (try clear hcz23_1); (try clear hfz10_0); (try clear hfz10_1); (try clear hfz11_0); (try clear hfz11_1); (try clear hfz22_0); (try clear hfz22_1); (try clear hfz23_0); (try clear hfz23_1); (try clear hx180_0); (try clear hx181_0); (try clear hx184_0); (try clear hx187_0); (try clear p180); (try clear p181); (try clear p184); (try clear p187); (try clear q180); (try clear q181); (try clear q184); (try clear q187)
      obtain ⟨kq, x64_17, rfl, HA, HJ17, BK176, BK177, HB⟩ := hcut
      cases kq with
      | zero => exact absurd HA.out (by simp [adjudicate_Score.j0])
      | succ kj17 =>
       have H := HA.out
       clear HA
       simp only [adjudicate_Score.j0] at H
       by_cases c31 : x64_17 = true
       ·
        subst c31
        have H1 : (some (wrap64 (t185 + t188), 0)) = some (r1, r2) := by rw [if_pos rfl] at H; exact H
        clear H
        have H := H1
        clear H1
        simp only [Option.some.injEq, Prod.mk.injEq] at H
        obtain ⟨rfl, rfl⟩ := H
        go_wp2
        go_ret2
        exact ⟨Es, Bw HB.out⟩
       ·
        replace c31 := Bool.eq_false_iff.mpr c31
        subst c31
        have H1 : (if t182 = true then (some (0, 21)) else (if 2 < (l2.length : Int) then ((rubric_Total.f kj17 a1_0 l1_1 (rd_L1 l2 2)).bind fun bt191 => (adjudicate_Score.j1 kj17 l2 t185 t188 bt191.1 a0_1 (a0_1 == 1) a1_0 l1_1)) else (none))) = some (r1, r2) := by rw [if_neg (show ¬ (false = true) by decide)] at H; exact H
        clear H
        have H := H1
        clear H1
        by_cases c32 : t182 = true
        ·
         subst c32
         have H1 : (some (0, 21)) = some (r1, r2) := by rw [if_pos rfl] at H; exact H
         clear H
         have H := H1
         clear H1
         simp only [Option.some.injEq, Prod.mk.injEq] at H
         obtain ⟨rfl, rfl⟩ := H
         go_wp2
         go_ret2
         exact ⟨Es, Bw HB.out⟩
        ·
         replace c32 := Bool.eq_false_iff.mpr c32
         subst c32
         have H1 : (if 2 < (l2.length : Int) then ((rubric_Total.f kj17 a1_0 l1_1 (rd_L1 l2 2)).bind fun bt191 => (adjudicate_Score.j1 kj17 l2 t185 t188 bt191.1 a0_1 (a0_1 == 1) a1_0 l1_1)) else (none)) = some (r1, r2) := by rw [if_neg (show ¬ (false = true) by decide)] at H; exact H
         clear H
         have H := H1
         clear H1
         by_cases c33 : 2 < (l2.length : Int)
         ·
          rw [if_pos c33] at H
          have c33b0 : decide (2 < (l2.length : Int)) = true := decide_eq_true c33
          have c33b1 : decide (2 < l2.length) = true := decide_eq_true (by omega)
          clear c33
          replace H := Option.bind_eq_some_iff.mp H
          obtain ⟨⟨t191, t192⟩, A340, H⟩ := H
          replace H : (adjudicate_Score.j1 kj17 l2 t185 t188 t191 a0_1 (a0_1 == 1) a1_0 l1_1) = some (r1, r2) := H
          have A34 := Aside0.mk A340
          clear A340
          have HC35 := Aside0.mk H
          clear H
          try go_wp2
          have n0_ := Aside0.mk (blk_drew BK176.out)
          have n1_ := Aside0.mk (blk_drew BK177.out)
          have n2_ := Aside0.mk (below_drew1 HB.out)
          clear BK176
          clear BK177
          clear HB
          have BK176 := n0_
          have BK177 := n1_
          have HB := n2_
          clear n0_ n1_ n2_
          have p190 : 0 ≤ (2 : Int) := (by omega)
          have q190 : 2 < (l2.length : Int) := of_decide_eq_true (by first | (with_reducible assumption) | assumption)
          obtain ⟨ad190, A190_0, c190_0, e190, hx190_0, hl190_0, hi190_0⟩ := at_L1 HR2.out 2 p190 q190
          have hw190_0 := hx190_0
          (try rw [show ((2 : Int)).toNat = 2 from rfl] at hw190_0)
          (try rw [show 2 * 1 = 2 from rfl] at hw190_0)
          (try simp only [Nat.reduceMul, Nat.reduceEqDiff, Go.Addr.add, ↓reduceIte] at hw190_0)
          obtain rfl : ad180 = ad190 := (by injection e190)
          (try simp only [show (2 : Int).toNat = 2 from rfl, Nat.reduceMul, Nat.reduceEqDiff, Go.Addr.add, ↓reduceIte] at hx190_0)
          have qi190 : (2 < l2.length) = True := eq_true (by omega)
          (try rw [show ((2 : Int)).toNat = 2 from rfl] at hx190_0)
          replace hx190_0 := (HB.out.cell (World.block_lt_of_cell? w _ hx190_0)).trans hx190_0
          have HR190_0 := Aside0.mk hi190_0
          have HC190_0 := Aside0.mk hl190_0
          clear hi190_0 hl190_0
          replace p190 := eq_true p190
          replace q190 := eq_true q190
          refine start_ (n := 10) (S := fun w' => w'.cell? ⟨gb177, 0, none⟩ = some (.int .i64 a1_0) ∧ w'.cell? ⟨gb177, 1, none⟩ = some (.slice A1_1 l1_1.length c1_1) ∧ w'.cell? ⟨ad180.block, ad180.off + 2, none⟩ = some (.slice A190_0 (rd_L1 l2 2).length c190_0)) (ds := []) #[Z,Z,Z,Z,Z,Z,Z,Z,Z,Z] (by kernel_rfl) rfl rfl ⟨(blk_cell BK177.out 0).trans rfl, (blk_cell BK177.out 1).trans rfl, ((HB.out.cell (World.block_lt_of_cell? w _ hw190_0)).trans hw190_0)⟩ (fun hHeld => ?_); refine with_tabW adjudicate_Score.tab13 adjudicate_Score.bits13 (fun HT_ HW_ => ?_)
          generalize wc.drew = w36 at BK176 BK177 HB HR190_0 hx190_0 hHeld ⊢
          refine pu (i := 1) (N := some 71) #[Z,Y,Z,Z,Z,Z,Z,Z,Z,Z] rfl rfl (any_of HT_.out (by kernel_rfl)) ?_
          refine pu (i := 2) (N := some 72) #[Z,Y,Y,Z,Z,Z,Z,Z,Z,Z] rfl rfl (any_of HT_.out (by kernel_rfl)) ?_
          refine take_ (i := 0) (N := some 70) (v := ?_) (a' := ?_) #[Y,Y,Y,Z,Z,Z,Z,Z,Z,Z] rfl rfl (take_ofW HT_.out HW_.out (by kernel_rfl)) (fun _ _ _ h => h) (Or.inl ⟨by rfl, ?_⟩) hHeld ?_ ?_
          rotate_left
          ·
           rintro w' ⟨s0, s1, s2⟩
           go_simp
           with_reducible rfl
          rotate_left
          ·
           simp only [Act.put, List.setIfInBounds_toArray, List.set_cons_zero, List.set_cons_succ, i64_w, i32_w]
           rfl
          refine take_ (i := 3) (N := some 73) (v := ?_) (a' := ?_) #[Y,Y,Y,Y,Z,Z,Z,Z,Z,Z] rfl rfl (take_ofW HT_.out HW_.out (by kernel_rfl)) (fun _ _ _ h => h) (Or.inl ⟨by rfl, ?_⟩) hHeld ?_ ?_
          rotate_left
          ·
           rintro w' ⟨s0, s1, s2⟩
           go_simp
           with_reducible rfl
          rotate_left
          ·
           simp only [Act.put, List.setIfInBounds_toArray, List.set_cons_zero, List.set_cons_succ, i64_w, i32_w]
           rfl
          refine one_ (i := 4) (N := some 74) #[true, true, true, true, true, false, false, false, false, false] rfl rfl (one_of HT_.out (by kernel_rfl)) (by decide) (fun K hK => ?_)
          refine goes_ Try.func15 (by kernel_rfl) rfl #[.agg #[.int .i64 a1_0, .slice A1_1 l1_1.length c1_1], .slice A190_0 (rd_L1 l2 2).length c190_0] (by rfl) rfl rfl (by (try simp only [List.map_toArray, List.map_cons, List.map_nil]); first | done | rfl | (simp only [List.length_drop, List.length_take]; rfl)) ?_
          with_reducible refine (rubric_Total.calls kj17 a1_0 _ _ l1_1 _ _ (rd_L1 l2 2) t191 t192 _ ?side1 ?side2 ?side3 ?side4 A34.out).mono ?_
          (case side1 => exact Ck (Kd.C_below HR1_1.out HB.out))
          (case side2 => exact HC1_1.out)
          (case side3 => exact Ck (Kd.C_below HR190_0.out HB.out))
          (case side4 => exact HC190_0.out)
          rintro e w37 ⟨rfl, hb⟩
          refine ⟨_, rfl, ?_⟩
          have n0_ := Aside0.mk (blk_below (g := gb176) (o := .cells #[.int .i64 a0_0, .int .i64 a0_1] 23 (0, 0)) (Bk BK176.out) hb)
          have n1_ := Aside0.mk (blk_below (g := gb177) (o := .cells #[.int .i64 a1_0, .slice A1_1 l1_1.length c1_1] 26 (0, 0)) (Bk BK177.out) hb)
          have n2_ := Aside0.mk (below_step (Bw HB.out) hb)
          clear BK176
          clear BK177
          clear HB
          have BK176 := n0_
          have BK177 := n1_
          have HB := n2_
          clear n0_ n1_ n2_
          (try clear hb)
          (try clear hb2)
          (try clear hk)
          (try clear hi)
          refine hK.out _ _ ⟨(blk_cell BK177.out 0).trans rfl, (blk_cell BK177.out 1).trans rfl, ((HB.out.cell (World.block_lt_of_cell? w _ hw190_0)).trans hw190_0)⟩ (fun hHeld => ?_)
          clear hK K
          refine norm_ (a' := ?_) ?_ ?_
          rotate_left
          ·
           show Act.put _ (some 74) _ = _
           simp only [Act.put, List.setIfInBounds_toArray, List.set_cons_zero, List.set_cons_succ, i64_w, i32_w]
           rfl
          refine pu (i := 5) (N := some 69) #[Y,Y,Y,Y,Y,Y,Z,Z,Z,Z] rfl rfl (any_of HT_.out (by kernel_rfl)) ?_
          refine pu (i := 6) (N := some 75) #[Y,Y,Y,Y,Y,Y,Y,Z,Z,Z] rfl rfl (any_of HT_.out (by kernel_rfl)) ?_
          refine pu (i := 7) (N := some 76) #[Y,Y,Y,Y,Y,Y,Y,Y,Z,Z] rfl rfl (any_of HT_.out (by kernel_rfl)) ?_
          refine pu (i := 8) (N := some 16) #[Y,Y,Y,Y,Y,Y,Y,Y,Y,Z] rfl rfl (any_of HT_.out (by kernel_rfl)) ?_
          refine pu (i := 9) (N := some 17) #[Y,Y,Y,Y,Y,Y,Y,Y,Y,Y] rfl rfl (any_of HT_.out (by kernel_rfl)) ?_
          refine done_ (done_of HT_.out (by kernel_rfl)) ?_
          have hnb38 := NB176_177.out
          have hnc38 := NB177_176.out
          have hcz39_0 : w37.cell? ⟨gb176, 0, none⟩ = some (.int .i64 a0_0) := (blk_cell BK176.out 0).trans rfl
          have hcz39_1 : w37.cell? ⟨gb176, 1, none⟩ = some (.int .i64 a0_1) := (blk_cell BK176.out 1).trans rfl
          have hfz39_0 := blk_frozen BK176.out 0
          have hfz39_1 := blk_frozen BK176.out 1
          go_upto_region 15 with (fail)
          go_cut [79] (fun v79 wc => ∃ (kq : Nat) (x79_34 : Bool), v79 = .bool x79_34 ∧ Aside0 (adjudicate_Score.j1 kq l2 t185 t188 t191 a0_1 x79_34 a1_0 l1_1 = some (r1, r2)) ∧ Aside0 (kq ≤ kj17) ∧ Aside0 (wc.heap[gb176]? = some (.cells #[.int .i64 a0_0, .int .i64 a0_1] 23 (0, 0))) ∧ Aside0 (wc.heap[gb177]? = some (.cells #[.int .i64 a1_0, (.slice A1_1 l1_1.length c1_1)] 26 (0, 0))) ∧ Aside0 (Below w.heap.size w wc))
          case first =>
           have H := HC35.out
           clear HC35
           have H' := Aside0.mk H
           clear H
           go_wp2
           go_meet
           case rel => exact ⟨_, ((a0_1 == 1)), (by first | rfl | (simp; done) | (simp [*]; done)), H', ⟨by have := HJ17.out; first | omega | exact Nat.le_refl _⟩, ⟨Bk BK176.out⟩, ⟨Bk BK177.out⟩, ⟨Bw HB.out⟩⟩
          case rest =>
           clear HC35
           (try clear c1); (try clear p1); (try clear q1); (try clear hx1); (try clear qi1); (try clear c2); (try clear p2); (try clear c3); (try clear c5); (try clear c5b0); (try clear c5b1); (try clear c6); (try clear c6b0); (try clear p6); (try clear c9); (try clear c12); (try clear c13); (try clear c13b0); (try clear c13b1); (try clear c14); (try clear c14b0); (try clear c14b1); (try clear c15); (try clear c18); (try clear p18); (try clear q18); (try clear hx18); (try clear qi18); (try clear c19); (try clear p19); (try clear q19); (try clear hx19); (try clear qi19); (try clear c21); (try clear c31); (try clear c32); (try clear c33); (try clear c33b0); (try clear c33b1); (try clear c38); (try clear hcz10_0); (try clear hcz10_1); (try clear hcz11_0); (try clear hcz11_1); (try clear hcz22_0); (try clear hcz22_1); (try clear hcz23_0); (try clear hcz23_1); (try clear hcz39_0); (try clear hcz39_1); (try clear hfz10_0); (try clear hfz10_1); (try clear hfz11_0); (try clear hfz11_1); (try clear hfz22_0); (try clear hfz22_1); (try clear hfz23_0); (try clear hfz23_1); (try clear hfz39_0); (try clear hfz39_1); (try clear hx180_0); (try clear hx181_0); (try clear hx184_0); (try clear hx187_0); (try clear hx190_0); (try clear p1); (try clear p18); (try clear p180); (try clear p181); (try clear p184); (try clear p187); (try clear p190); (try clear p2); (try clear q1); (try clear q18); (try clear q180); (try clear q181); (try clear q184); (try clear q187); (try clear q190)
           obtain ⟨kq, x79_34, rfl, HA, HJ34, BK176, BK177, HB⟩ := hcut
           cases kq with
           | zero => exact absurd HA.out (by simp [adjudicate_Score.j1])
           | succ kj34 =>
            have H := HA.out
            clear HA
            simp only [adjudicate_Score.j1] at H
            by_cases c40 : x79_34 = true
            ·
             subst c40
             have H1 : (some (wrap64 (2 * t191), 0)) = some (r1, r2) := by rw [if_pos rfl] at H; exact H
             clear H
             have H := H1
             clear H1
             simp only [Option.some.injEq, Prod.mk.injEq] at H
             obtain ⟨rfl, rfl⟩ := H
             go_wp2
             go_ret2
             exact ⟨Es, Bw HB.out⟩
            ·
             replace c40 := Bool.eq_false_iff.mpr c40
             subst c40
             have H1 : (if a0_1 = 2 then ((adjudicate_apart.f t188 t191).bind fun t193 => ((adjudicate_apart.f t185 t191).bind fun t194 => (if t193 < t194 then (some (wrap64 (t188 + t191), 0)) else (some (wrap64 (t185 + t191), 0))))) else (if 0 < (l2.length : Int) then (if 1 < (l2.length : Int) then (if 2 < (l2.length : Int) then ((rubric_Median.f kj34 a1_0 l1_1 (rd_L1 l2 0) (rd_L1 l2 1) (rd_L1 l2 2)).bind fun bt198 => ((rubric_Total.f kj34 a1_0 l1_1 bt198.1).bind fun bt202 => (some (wrap64 (2 * bt202.1), 0)))) else (none)) else (none)) else (none))) = some (r1, r2) := by rw [if_neg (show ¬ (false = true) by decide)] at H; exact H
             clear H
             have H := H1
             clear H1
             by_cases c41 : a0_1 = 2
             ·
              rw [if_pos c41] at H
              have c41b0 : (a0_1 == 2) = true := beq_iff_eq.mpr c41
              have c41b1 : (a0_1 != 2) = false := bne_eq_false_iff_eq.mpr c41
              clear c41
              replace H := Option.bind_eq_some_iff.mp H
              obtain ⟨t193, A420, H⟩ := H
              replace H : ((adjudicate_apart.f t185 t191).bind fun t194 => (if t193 < t194 then (some (wrap64 (t188 + t191), 0)) else (some (wrap64 (t185 + t191), 0)))) = some (r1, r2) := H
              have A42 := Aside0.mk A420
              clear A420
              replace H := Option.bind_eq_some_iff.mp H
              obtain ⟨t194, A430, H⟩ := H
              replace H : (if t193 < t194 then (some (wrap64 (t188 + t191), 0)) else (some (wrap64 (t185 + t191), 0))) = some (r1, r2) := H
              have A43 := Aside0.mk A430
              clear A430
              by_cases c44 : t193 < t194
              ·
               rw [if_pos c44] at H
               have c44b0 : decide (t193 < t194) = true := decide_eq_true c44
               clear c44
               simp only [Option.some.injEq, Prod.mk.injEq] at H
               obtain ⟨rfl, rfl⟩ := H
               go_wp2_with (first | ((with_reducible refine gate_callee (f := 28) rfl ?_); refine goesL_ (some 87) rfl rfl Try.func28 (by kernel_rfl) rfl #[.int .i64 t188, .int .i64 t191] rfl (by (try simp only [List.map_toArray, List.map_cons, List.map_nil]); first | done | rfl | (simp only [List.length_drop, List.length_take]; rfl)) ?_; (with_reducible refine (adjudicate_apart.calls t188 t191 t193 _ A42.out).mono ?_); rintro e w45 ⟨rfl, hb⟩; refine ⟨_, rfl, ?_⟩; have n0_ := Aside0.mk (blk_below (g := gb176) (o := .cells #[.int .i64 a0_0, .int .i64 a0_1] 23 (0, 0)) (Bk BK176.out) hb); have n1_ := Aside0.mk (blk_below (g := gb177) (o := .cells #[.int .i64 a1_0, .slice A1_1 l1_1.length c1_1] 26 (0, 0)) (Bk BK177.out) hb); have n2_ := Aside0.mk (below_step (Bw HB.out) hb); clear BK176; clear BK177; clear HB; have BK176 := n0_; have BK177 := n1_; have HB := n2_; clear n0_ n1_ n2_; (try clear hb); (try clear hb2); (try clear hk); (try clear hi)) | ((with_reducible refine gate_callee (f := 28) rfl ?_); refine goesL_ (some 90) rfl rfl Try.func28 (by kernel_rfl) rfl #[.int .i64 t185, .int .i64 t191] rfl (by (try simp only [List.map_toArray, List.map_cons, List.map_nil]); first | done | rfl | (simp only [List.length_drop, List.length_take]; rfl)) ?_; (with_reducible refine (adjudicate_apart.calls t185 t191 t194 _ A43.out).mono ?_); rintro e w46 ⟨rfl, hb⟩; refine ⟨_, rfl, ?_⟩; have n0_ := Aside0.mk (blk_below (g := gb176) (o := .cells #[.int .i64 a0_0, .int .i64 a0_1] 23 (0, 0)) (Bk BK176.out) hb); have n1_ := Aside0.mk (blk_below (g := gb177) (o := .cells #[.int .i64 a1_0, .slice A1_1 l1_1.length c1_1] 26 (0, 0)) (Bk BK177.out) hb); have n2_ := Aside0.mk (below_step (Bw HB.out) hb); clear BK176; clear BK177; clear HB; have BK176 := n0_; have BK177 := n1_; have HB := n2_; clear n0_ n1_ n2_; (try clear hb); (try clear hb2); (try clear hk); (try clear hi)))
               go_ret2
               exact ⟨Es, Bw HB.out⟩
              ·
               rw [if_neg c44] at H
               have c44b0 : decide (t193 < t194) = false := decide_eq_false c44
               clear c44
               simp only [Option.some.injEq, Prod.mk.injEq] at H
               obtain ⟨rfl, rfl⟩ := H
               go_wp2_with (first | ((with_reducible refine gate_callee (f := 28) rfl ?_); refine goesL_ (some 87) rfl rfl Try.func28 (by kernel_rfl) rfl #[.int .i64 t188, .int .i64 t191] rfl (by (try simp only [List.map_toArray, List.map_cons, List.map_nil]); first | done | rfl | (simp only [List.length_drop, List.length_take]; rfl)) ?_; (with_reducible refine (adjudicate_apart.calls t188 t191 t193 _ A42.out).mono ?_); rintro e w47 ⟨rfl, hb⟩; refine ⟨_, rfl, ?_⟩; have n0_ := Aside0.mk (blk_below (g := gb176) (o := .cells #[.int .i64 a0_0, .int .i64 a0_1] 23 (0, 0)) (Bk BK176.out) hb); have n1_ := Aside0.mk (blk_below (g := gb177) (o := .cells #[.int .i64 a1_0, .slice A1_1 l1_1.length c1_1] 26 (0, 0)) (Bk BK177.out) hb); have n2_ := Aside0.mk (below_step (Bw HB.out) hb); clear BK176; clear BK177; clear HB; have BK176 := n0_; have BK177 := n1_; have HB := n2_; clear n0_ n1_ n2_; (try clear hb); (try clear hb2); (try clear hk); (try clear hi)) | ((with_reducible refine gate_callee (f := 28) rfl ?_); refine goesL_ (some 90) rfl rfl Try.func28 (by kernel_rfl) rfl #[.int .i64 t185, .int .i64 t191] rfl (by (try simp only [List.map_toArray, List.map_cons, List.map_nil]); first | done | rfl | (simp only [List.length_drop, List.length_take]; rfl)) ?_; (with_reducible refine (adjudicate_apart.calls t185 t191 t194 _ A43.out).mono ?_); rintro e w48 ⟨rfl, hb⟩; refine ⟨_, rfl, ?_⟩; have n0_ := Aside0.mk (blk_below (g := gb176) (o := .cells #[.int .i64 a0_0, .int .i64 a0_1] 23 (0, 0)) (Bk BK176.out) hb); have n1_ := Aside0.mk (blk_below (g := gb177) (o := .cells #[.int .i64 a1_0, .slice A1_1 l1_1.length c1_1] 26 (0, 0)) (Bk BK177.out) hb); have n2_ := Aside0.mk (below_step (Bw HB.out) hb); clear BK176; clear BK177; clear HB; have BK176 := n0_; have BK177 := n1_; have HB := n2_; clear n0_ n1_ n2_; (try clear hb); (try clear hb2); (try clear hk); (try clear hi)))
               go_ret2
               exact ⟨Es, Bw HB.out⟩
             ·
              rw [if_neg c41] at H
              have c41b0 : (a0_1 == 2) = false := beq_eq_false_iff_ne.mpr c41
              have c41b1 : (a0_1 != 2) = true := bne_iff_ne.mpr c41
              by_cases c49 : 0 < (l2.length : Int)
              ·
               rw [if_pos c49] at H
               have c49b0 : decide (0 < (l2.length : Int)) = true := decide_eq_true c49
               have c49b1 : decide (0 < l2.length) = true := decide_eq_true (by omega)
               clear c49
               by_cases c50 : 1 < (l2.length : Int)
               ·
                rw [if_pos c50] at H
                have c50b0 : decide (1 < (l2.length : Int)) = true := decide_eq_true c50
                have c50b1 : decide (1 < l2.length) = true := decide_eq_true (by omega)
                clear c50
                by_cases c51 : 2 < (l2.length : Int)
                ·
                 rw [if_pos c51] at H
                 have c51b0 : decide (2 < (l2.length : Int)) = true := decide_eq_true c51
                 have c51b1 : decide (2 < l2.length) = true := decide_eq_true (by omega)
                 clear c51
                 replace H := Option.bind_eq_some_iff.mp H
                 obtain ⟨⟨t198, t201⟩, A520, H⟩ := H
                 replace H : ((rubric_Total.f kj34 a1_0 l1_1 t198).bind fun bt202 => (some (wrap64 (2 * bt202.1), 0))) = some (r1, r2) := H
                 have A52 := Aside0.mk A520
                 clear A520
                 replace H := Option.bind_eq_some_iff.mp H
                 obtain ⟨⟨t202, t203⟩, A530, H⟩ := H
                 replace H : (some (wrap64 (2 * t202), 0)) = some (r1, r2) := H
                 have A53 := Aside0.mk A530
                 clear A530
                 simp only [Option.some.injEq, Prod.mk.injEq] at H
                 obtain ⟨rfl, rfl⟩ := H
                 try go_wp2
                 have n0_ := Aside0.mk (blk_drew BK176.out)
                 have n1_ := Aside0.mk (blk_drew BK177.out)
                 have n2_ := Aside0.mk (below_drew1 HB.out)
                 clear BK176
                 clear BK177
                 clear HB
                 have BK176 := n0_
                 have BK177 := n1_
                 have HB := n2_
                 clear n0_ n1_ n2_
                 have p195 : 0 ≤ (0 : Int) := (by omega)
                 have q195 : 0 < (l2.length : Int) := of_decide_eq_true (by first | (with_reducible assumption) | assumption)
                 obtain ⟨ad195, A195_0, c195_0, e195, hx195_0, hl195_0, hi195_0⟩ := at_L1 HR2.out 0 p195 q195
                 have hw195_0 := hx195_0
                 (try rw [show ((0 : Int)).toNat = 0 from rfl] at hw195_0)
                 (try rw [show 0 * 1 = 0 from rfl] at hw195_0)
                 (try rw [Addr.add_zero'] at hw195_0)
                 obtain rfl : ad180 = ad195 := (by injection e195)
                 have qi195 : (0 < l2.length) = True := eq_true (by omega)
                 (try rw [show ((0 : Int)).toNat = 0 from rfl] at hx195_0)
                 (try rw [Addr.add_zero'] at hx195_0)
                 replace hx195_0 := (HB.out.cell (World.block_lt_of_cell? w _ hx195_0)).trans hx195_0
                 have HR195_0 := Aside0.mk hi195_0
                 have HC195_0 := Aside0.mk hl195_0
                 clear hi195_0 hl195_0
                 replace p195 := eq_true p195
                 replace q195 := eq_true q195
                 have p196 : 0 ≤ (1 : Int) := (by omega)
                 have q196 : 1 < (l2.length : Int) := of_decide_eq_true (by first | (with_reducible assumption) | assumption)
                 obtain ⟨ad196, A196_0, c196_0, e196, hx196_0, hl196_0, hi196_0⟩ := at_L1 HR2.out 1 p196 q196
                 have hw196_0 := hx196_0
                 (try rw [show ((1 : Int)).toNat = 1 from rfl] at hw196_0)
                 (try rw [show 1 * 1 = 1 from rfl] at hw196_0)
                 (try simp only [Nat.reduceMul, Nat.reduceEqDiff, Go.Addr.add, ↓reduceIte] at hw196_0)
                 obtain rfl : ad180 = ad196 := (by injection e196)
                 (try simp only [show (1 : Int).toNat = 1 from rfl, Nat.reduceMul, Nat.reduceEqDiff, Go.Addr.add, ↓reduceIte] at hx196_0)
                 have qi196 : (1 < l2.length) = True := eq_true (by omega)
                 (try rw [show ((1 : Int)).toNat = 1 from rfl] at hx196_0)
                 replace hx196_0 := (HB.out.cell (World.block_lt_of_cell? w _ hx196_0)).trans hx196_0
                 have HR196_0 := Aside0.mk hi196_0
                 have HC196_0 := Aside0.mk hl196_0
                 clear hi196_0 hl196_0
                 replace p196 := eq_true p196
                 replace q196 := eq_true q196
                 have p197 : 0 ≤ (2 : Int) := (by omega)
                 have q197 : 2 < (l2.length : Int) := of_decide_eq_true (by first | (with_reducible assumption) | assumption)
                 obtain ⟨ad197, A197_0, c197_0, e197, hx197_0, hl197_0, hi197_0⟩ := at_L1 HR2.out 2 p197 q197
                 have hw197_0 := hx197_0
                 (try rw [show ((2 : Int)).toNat = 2 from rfl] at hw197_0)
                 (try rw [show 2 * 1 = 2 from rfl] at hw197_0)
                 (try simp only [Nat.reduceMul, Nat.reduceEqDiff, Go.Addr.add, ↓reduceIte] at hw197_0)
                 obtain rfl : ad180 = ad197 := (by injection e197)
                 (try simp only [show (2 : Int).toNat = 2 from rfl, Nat.reduceMul, Nat.reduceEqDiff, Go.Addr.add, ↓reduceIte] at hx197_0)
                 have qi197 : (2 < l2.length) = True := eq_true (by omega)
                 (try rw [show ((2 : Int)).toNat = 2 from rfl] at hx197_0)
                 replace hx197_0 := (HB.out.cell (World.block_lt_of_cell? w _ hx197_0)).trans hx197_0
                 have HR197_0 := Aside0.mk hi197_0
                 have HC197_0 := Aside0.mk hl197_0
                 clear hi197_0 hl197_0
                 replace p197 := eq_true p197
                 replace q197 := eq_true q197
                 refine start_ (n := 16) (S := fun w' => w'.cell? ⟨gb177, 0, none⟩ = some (.int .i64 a1_0) ∧ w'.cell? ⟨gb177, 1, none⟩ = some (.slice A1_1 l1_1.length c1_1) ∧ w'.cell? ad180 = some (.slice A195_0 (rd_L1 l2 0).length c195_0) ∧ w'.cell? ⟨ad180.block, ad180.off + 1, none⟩ = some (.slice A196_0 (rd_L1 l2 1).length c196_0) ∧ w'.cell? ⟨ad180.block, ad180.off + 2, none⟩ = some (.slice A197_0 (rd_L1 l2 2).length c197_0)) (ds := []) #[Z,Z,Z,Z,Z,Z,Z,Z,Z,Z,Z,Z,Z,Z,Z,Z] (by kernel_rfl) rfl rfl ⟨(blk_cell BK177.out 0).trans rfl, (blk_cell BK177.out 1).trans rfl, ((HB.out.cell (World.block_lt_of_cell? w _ hw195_0)).trans hw195_0), ((HB.out.cell (World.block_lt_of_cell? w _ hw196_0)).trans hw196_0), ((HB.out.cell (World.block_lt_of_cell? w _ hw197_0)).trans hw197_0)⟩ (fun hHeld => ?_); refine with_tabW adjudicate_Score.tab21 adjudicate_Score.bits21 (fun HT_ HW_ => ?_)
                 generalize wc.drew = w54 at BK176 BK177 HB HR195_0 HR196_0 HR197_0 hx195_0 hx196_0 hx197_0 hHeld ⊢
                 refine pu (i := 1) (N := some 100) #[Z,Y,Z,Z,Z,Z,Z,Z,Z,Z,Z,Z,Z,Z,Z,Z] rfl rfl (any_of HT_.out (by kernel_rfl)) ?_
                 refine pu (i := 2) (N := some 101) #[Z,Y,Y,Z,Z,Z,Z,Z,Z,Z,Z,Z,Z,Z,Z,Z] rfl rfl (any_of HT_.out (by kernel_rfl)) ?_
                 refine pu (i := 4) (N := some 103) #[Z,Y,Y,Z,Y,Z,Z,Z,Z,Z,Z,Z,Z,Z,Z,Z] rfl rfl (any_of HT_.out (by kernel_rfl)) ?_
                 refine pu (i := 5) (N := some 104) #[Z,Y,Y,Z,Y,Y,Z,Z,Z,Z,Z,Z,Z,Z,Z,Z] rfl rfl (any_of HT_.out (by kernel_rfl)) ?_
                 refine pu (i := 7) (N := some 106) #[Z,Y,Y,Z,Y,Y,Z,Y,Z,Z,Z,Z,Z,Z,Z,Z] rfl rfl (any_of HT_.out (by kernel_rfl)) ?_
                 refine pu (i := 8) (N := some 107) #[Z,Y,Y,Z,Y,Y,Z,Y,Y,Z,Z,Z,Z,Z,Z,Z] rfl rfl (any_of HT_.out (by kernel_rfl)) ?_
                 refine take_ (i := 0) (N := some 99) (v := ?_) (a' := ?_) #[Y,Y,Y,Z,Y,Y,Z,Y,Y,Z,Z,Z,Z,Z,Z,Z] rfl rfl (take_ofW HT_.out HW_.out (by kernel_rfl)) (fun _ _ _ h => h) (Or.inl ⟨by rfl, ?_⟩) hHeld ?_ ?_
                 rotate_left
                 ·
                  rintro w' ⟨s0, s1, s2, s3, s4⟩
                  go_simp
                  with_reducible rfl
                 rotate_left
                 ·
                  simp only [Act.put, List.setIfInBounds_toArray, List.set_cons_zero, List.set_cons_succ, i64_w, i32_w]
                  rfl
                 refine take_ (i := 3) (N := some 102) (v := ?_) (a' := ?_) #[Y,Y,Y,Y,Y,Y,Z,Y,Y,Z,Z,Z,Z,Z,Z,Z] rfl rfl (take_ofW HT_.out HW_.out (by kernel_rfl)) (fun _ _ _ h => h) (Or.inl ⟨by rfl, ?_⟩) hHeld ?_ ?_
                 rotate_left
                 ·
                  rintro w' ⟨s0, s1, s2, s3, s4⟩
                  go_simp
                  with_reducible rfl
                 rotate_left
                 ·
                  simp only [Act.put, List.setIfInBounds_toArray, List.set_cons_zero, List.set_cons_succ, i64_w, i32_w]
                  rfl
                 refine take_ (i := 6) (N := some 105) (v := ?_) (a' := ?_) #[Y,Y,Y,Y,Y,Y,Y,Y,Y,Z,Z,Z,Z,Z,Z,Z] rfl rfl (take_ofW HT_.out HW_.out (by kernel_rfl)) (fun _ _ _ h => h) (Or.inl ⟨by rfl, ?_⟩) hHeld ?_ ?_
                 rotate_left
                 ·
                  rintro w' ⟨s0, s1, s2, s3, s4⟩
                  go_simp
                  with_reducible rfl
                 rotate_left
                 ·
                  simp only [Act.put, List.setIfInBounds_toArray, List.set_cons_zero, List.set_cons_succ, i64_w, i32_w]
                  rfl
                 refine take_ (i := 9) (N := some 108) (v := ?_) (a' := ?_) #[Y,Y,Y,Y,Y,Y,Y,Y,Y,Y,Z,Z,Z,Z,Z,Z] rfl rfl (take_ofW HT_.out HW_.out (by kernel_rfl)) (fun _ _ _ h => h) (Or.inl ⟨by rfl, ?_⟩) hHeld ?_ ?_
                 rotate_left
                 ·
                  rintro w' ⟨s0, s1, s2, s3, s4⟩
                  go_simp
                  with_reducible rfl
                 rotate_left
                 ·
                  simp only [Act.put, List.setIfInBounds_toArray, List.set_cons_zero, List.set_cons_succ, i64_w, i32_w]
                  rfl
                 refine one_ (i := 10) (N := some 109) #[true, true, true, true, true, true, true, true, true, true, true, false, false, false, false, false] rfl rfl (one_of HT_.out (by kernel_rfl)) (by decide) (fun K hK => ?_)
                 refine goes_ Try.func29 (by kernel_rfl) rfl #[.agg #[.int .i64 a1_0, .slice A1_1 l1_1.length c1_1], .slice A195_0 (rd_L1 l2 0).length c195_0, .slice A196_0 (rd_L1 l2 1).length c196_0, .slice A197_0 (rd_L1 l2 2).length c197_0] (by rfl) rfl rfl (by (try simp only [List.map_toArray, List.map_cons, List.map_nil]); first | done | rfl | (simp only [List.length_drop, List.length_take]; rfl)) ?_
                 with_reducible refine (rubric_Median.calls kj34 a1_0 _ _ l1_1 (fun k_ => k_ < w.heap.size) _ _ (rd_L1 l2 0) (fun k_ => k_ < w.heap.size) _ _ (rd_L1 l2 1) (fun k_ => k_ < w.heap.size) _ _ (rd_L1 l2 2) t198 t201 _ ?side1 ?side2 ?side3 ?side4 ?side5 A52.out).mono ?_
                 (case side1 => exact Ck (Kd.C_below HR1_1.out HB.out))
                 (case side2 => exact HC1_1.out)
                 (case side3 => exact Kd.V_mk HC195_0.out (Kd.F_below (Kd.C_F (Kd.heap_int .i64) HR195_0.out) (Bw HB.out)))
                 (case side4 => exact Kd.V_mk HC196_0.out (Kd.F_below (Kd.C_F (Kd.heap_int .i64) HR196_0.out) (Bw HB.out)))
                 (case side5 => exact Kd.V_mk HC197_0.out (Kd.F_below (Kd.C_F (Kd.heap_int .i64) HR197_0.out) (Bw HB.out)))
                 rintro e w55 ⟨v199, rfl, ho0, hb⟩
                 refine ⟨_, rfl, ?_⟩
                 have n0_ := Aside0.mk (Kd.R_lower (Kd.R_mono (ok' := fun k_ => True) ho0 (fun _ hk_ => trivial)) (below_size (Bw HB.out)))
                 have n1_ := Aside0.mk (blk_below (g := gb176) (o := .cells #[.int .i64 a0_0, .int .i64 a0_1] 23 (0, 0)) (Bk BK176.out) hb)
                 have n2_ := Aside0.mk (blk_below (g := gb177) (o := .cells #[.int .i64 a1_0, .slice A1_1 l1_1.length c1_1] 26 (0, 0)) (Bk BK177.out) hb)
                 have n3_ := Aside0.mk (below_step (Bw HB.out) hb)
                 clear BK176
                 clear BK177
                 clear HB
                 have HO200 := n0_
                 have BK176 := n1_
                 have BK177 := n2_
                 have HB := n3_
                 clear n0_ n1_ n2_ n3_
                 (try clear hb)
                 (try clear hb2)
                 (try clear hk)
                 (try clear hi)
                 (try clear ho0)
                 refine hK.out _ _ ⟨(blk_cell BK177.out 0).trans rfl, (blk_cell BK177.out 1).trans rfl, ((HB.out.cell (World.block_lt_of_cell? w _ hw195_0)).trans hw195_0), ((HB.out.cell (World.block_lt_of_cell? w _ hw196_0)).trans hw196_0), ((HB.out.cell (World.block_lt_of_cell? w _ hw197_0)).trans hw197_0)⟩ (fun hHeld => ?_)
                 clear hK K
                 refine norm_ (a' := ?_) ?_ ?_
                 rotate_left
                 ·
                  show Act.put _ (some 109) _ = _
                  simp only [Act.put, List.setIfInBounds_toArray, List.set_cons_zero, List.set_cons_succ, i64_w, i32_w]
                  rfl
                 refine pu (i := 11) (N := some 98) #[Y,Y,Y,Y,Y,Y,Y,Y,Y,Y,Y,Y,Z,Z,Z,Z] rfl rfl (any_of HT_.out (by kernel_rfl)) ?_
                 refine pu (i := 12) (N := some 110) #[Y,Y,Y,Y,Y,Y,Y,Y,Y,Y,Y,Y,Y,Z,Z,Z] rfl rfl (any_of HT_.out (by kernel_rfl)) ?_
                 refine pu (i := 13) (N := some 111) #[Y,Y,Y,Y,Y,Y,Y,Y,Y,Y,Y,Y,Y,Y,Z,Z] rfl rfl (any_of HT_.out (by kernel_rfl)) ?_
                 refine pu (i := 14) (N := some 18) #[Y,Y,Y,Y,Y,Y,Y,Y,Y,Y,Y,Y,Y,Y,Y,Z] rfl rfl (any_of HT_.out (by kernel_rfl)) ?_
                 refine pu (i := 15) (N := some 19) #[Y,Y,Y,Y,Y,Y,Y,Y,Y,Y,Y,Y,Y,Y,Y,Y] rfl rfl (any_of HT_.out (by kernel_rfl)) ?_
                 refine done_ (done_of HT_.out (by kernel_rfl)) ?_
                 have hnb56 := NB177_176.out
                 have hnc56 := NB176_177.out
                 have hcz57_0 : w55.cell? ⟨gb177, 0, none⟩ = some (.int .i64 a1_0) := (blk_cell BK177.out 0).trans rfl
                 have hcz57_1 : w55.cell? ⟨gb177, 1, none⟩ = some (.slice A1_1 l1_1.length c1_1) := (blk_cell BK177.out 1).trans rfl
                 have hfz57_0 := blk_frozen BK177.out 0
                 have hfz57_1 := blk_frozen BK177.out 1
                 obtain ⟨Ao58, co58, eo58⟩ := Kd.R_slice HO200.out
                 subst eo58
                 try go_wp2_with (first | ((with_reducible refine gate_callee (f := 15) rfl ?_); refine goesL_ (some 115) rfl rfl Try.func15 (by kernel_rfl) rfl #[.agg #[.int .i64 a1_0, .slice A1_1 l1_1.length c1_1], .slice Ao58 t198.length co58] rfl (by (try simp only [List.map_toArray, List.map_cons, List.map_nil]); first | done | rfl | (simp only [List.length_drop, List.length_take]; rfl)) ?_; (with_reducible refine (rubric_Total.calls kj34 a1_0 _ _ l1_1 _ _ t198 t202 t203 _ ?side1 ?side2 ?side3 ?side4 A53.out).mono ?_); (case side1 => exact Ck (Kd.C_below HR1_1.out HB.out)); (case side2 => exact HC1_1.out); (case side3 => exact Ck (Kd.R_reads' HO200.out).2.2); (case side4 => exact (Kd.R_reads' HO200.out).2.1); rintro e w59 ⟨rfl, hb⟩; refine ⟨_, rfl, ?_⟩; have n0_ := Aside0.mk (Kd.R_below (Rk HO200.out) hb); have n1_ := Aside0.mk (blk_below (g := gb176) (o := .cells #[.int .i64 a0_0, .int .i64 a0_1] 23 (0, 0)) (Bk BK176.out) hb); have n2_ := Aside0.mk (blk_below (g := gb177) (o := .cells #[.int .i64 a1_0, .slice A1_1 l1_1.length c1_1] 26 (0, 0)) (Bk BK177.out) hb); have n3_ := Aside0.mk (below_step (Bw HB.out) hb); clear HO200; clear BK176; clear BK177; clear HB; have HO200 := n0_; have BK176 := n1_; have BK177 := n2_; have HB := n3_; clear n0_ n1_ n2_ n3_; (try clear hb); (try clear hb2); (try clear hk); (try clear hi)))
                 go_ret2
                 exact ⟨Es, Bw HB.out⟩
                ·
                 rw [if_neg c51] at H
                 exact absurd H (by simp)
               ·
                rw [if_neg c50] at H
                exact absurd H (by simp)
              ·
               rw [if_neg c49] at H
               exact absurd H (by simp)
         ·
          rw [if_neg c33] at H
          exact absurd H (by simp)
    ·
     rw [if_neg c14] at H
     exact absurd H (by simp)
   ·
    rw [if_neg c13] at H
    exact absurd H (by simp)
 ·
  rw [if_neg c5] at H
  have c5b0 : (t179 == 0) = false := beq_eq_false_iff_ne.mpr c5
  have c5b1 : (t179 != 0) = true := bne_iff_ne.mpr c5
  simp only [Option.some.injEq, Prod.mk.injEq] at H
  obtain ⟨rfl, rfl⟩ := H
  go_enter Try.func12, Try.ntmps12
  go_wp2_with (first | ((with_reducible refine gate_dst (N := 3) rfl ?_); refine box_event ?hg (N := 3) ?hd (cs := #[.int .i64 a0_0, .int .i64 a0_1]) (t := 23) ?hr ?_; (case hd => rfl); (case hg => rfl); (case hr => first | (go_simp; done) | (go_simp; rfl)); intro gb176 hg w60 hbox hb; have n0_ := Aside0.mk (below_step (Bw HB.out) hb); have n1_ := Aside0.mk (hbox); have n2_ := Aside0.mk (Gs hg (Bw HB.out)); have n3_ := Aside0.mk (Gs hg (Bw HB.out)); clear HB; have HB := n0_; have BK176 := n1_; have GW176 := n2_; have GE176 := n3_; clear n0_ n1_ n2_ n3_; clear hb hbox hg) | ((with_reducible refine gate_dst (N := 4) rfl ?_); refine box_event ?hg (N := 4) ?hd (cs := #[.int .i64 a1_0, .slice A1_1 l1_1.length c1_1]) (t := 26) ?hr ?_; (case hd => rfl); (case hg => rfl); (case hr => first | (go_simp; done) | (go_simp; rfl)); intro gb177 hg w61 hbox hb; have n0_ := Aside0.mk (blk_below (g := gb176) (o := .cells #[.int .i64 a0_0, .int .i64 a0_1] 23 (0, 0)) (Bk BK176.out) hb); have n1_ := Aside0.mk (below_step (Bw HB.out) hb); have n2_ := Aside0.mk (hbox); have n3_ := Aside0.mk (Gs hg (Bw HB.out)); have n4_ := Aside0.mk (Gs hg (Bw HB.out)); have n5_ := Aside0.mk ((by rw [hg]; exact Nat.ne_of_lt (blk_lt (g := gb176) (o := .cells #[.int .i64 a0_0, .int .i64 a0_1] 23 (0, 0)) (Bk BK176.out)) : gb176 ≠ gb177)); have n6_ := Aside0.mk ((by rw [hg]; exact Nat.ne_of_gt (blk_lt (g := gb176) (o := .cells #[.int .i64 a0_0, .int .i64 a0_1] 23 (0, 0)) (Bk BK176.out)) : gb177 ≠ gb176)); clear BK176; clear HB; have BK176 := n0_; have HB := n1_; have BK177 := n2_; have GW177 := n3_; have GE177 := n4_; have NB176_177 := n5_; have NB177_176 := n6_; clear n0_ n1_ n2_ n3_ n4_ n5_ n6_; clear hb hbox hg; have hnb62 := NB176_177.out; have hnc62 := NB177_176.out; have hcz63_0 : w61.cell? ⟨gb176, 0, none⟩ = some (.int .i64 a0_0) := (blk_cell BK176.out 0).trans rfl; have hcz63_1 : w61.cell? ⟨gb176, 1, none⟩ = some (.int .i64 a0_1) := (blk_cell BK176.out 1).trans rfl; have hfz63_0 := blk_frozen BK176.out 0; have hfz63_1 := blk_frozen BK176.out 1; have hcz64_0 : w61.cell? ⟨gb177, 0, none⟩ = some (.int .i64 a1_0) := (blk_cell BK177.out 0).trans rfl; have hcz64_1 : w61.cell? ⟨gb177, 1, none⟩ = some (.slice A1_1 l1_1.length c1_1) := (blk_cell BK177.out 1).trans rfl; have hfz64_0 := blk_frozen BK177.out 0; have hfz64_1 := blk_frozen BK177.out 1) | ((with_reducible refine gate_callee (f := 13) rfl ?_); refine goesL_ (some 26) rfl rfl Try.func13 (by kernel_rfl) rfl #[.agg #[.int .i64 a0_0, .int .i64 a0_1], .agg #[.int .i64 a1_0, .slice A1_1 l1_1.length c1_1], .slice A2 l2.length c2] rfl (by (try simp only [List.map_toArray, List.map_cons, List.map_nil]); first | done | rfl | (simp only [List.length_drop, List.length_take]; rfl)) ?_; (with_reducible refine (adjudicate_Need.calls k a0_0 a0_1 a1_0 _ _ l1_1 _ _ l2 t178 t179 _ ?side1 ?side2 ?side3 ?side4 A4.out).mono ?_); (case side1 => exact Ck (Kd.C_below HR1_1.out HB.out)); (case side2 => exact HC1_1.out); (case side3 => exact Ck (Kd.C_below HR2.out HB.out)); (case side4 => exact HC2.out); rintro e w65 ⟨rfl, hb⟩; refine ⟨_, rfl, ?_⟩; have n0_ := Aside0.mk (blk_below (g := gb176) (o := .cells #[.int .i64 a0_0, .int .i64 a0_1] 23 (0, 0)) (Bk BK176.out) hb); have n1_ := Aside0.mk (blk_below (g := gb177) (o := .cells #[.int .i64 a1_0, .slice A1_1 l1_1.length c1_1] 26 (0, 0)) (Bk BK177.out) hb); have n2_ := Aside0.mk (below_step (Bw HB.out) hb); clear BK176; clear BK177; clear HB; have BK176 := n0_; have BK177 := n1_; have HB := n2_; clear n0_ n1_ n2_; (try clear hb); (try clear hb2); (try clear hk); (try clear hi)))
  go_ret2
  exact ⟨Es, Bw HB.out⟩

end Go.Proofs.Ytkajeeikpffioaa.All
