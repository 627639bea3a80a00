-- Written by myprint.py for this claim: functions of the program as Lean functions, with the proofs that the calls come to them.
import Derived.Test.YtokmnbdnligcaaaAllx0
import Derived.Test.YtokmnbdnligcaaaAllx14
import Derived.Test.YtokmnbdnligcaaaAllx27
namespace Go.Proofs.Ytokmnbdnligcaaa.All
open Go.RowKit Go.Proofs.YtokmnbdnligcaaaW.PrintWords Go.Proofs.YtokmnbdnligcaaaW.PrintLast Go.Proofs.YtokmnbdnligcaaaW.PrintMore
attribute [local go_sem] max2_int min2_int max_two min_two max_three min_three max_four min_four   -- for this text's walks alone
set_option linter.unusedVariables false
set_option linter.unusedSimpArgs false

/-! ### examboardref15_Apply: function 24 -/
mutual
def examboardref15_Apply.l0 : Nat → Int → Int → Int → List Int → List Int → List (S34) → Int → Int → Int → Int → Int → Int → List Int → List Int → List (S34) → Option (Int × Int × List Int × List Int × (List (S34)) × Int)
 | 0, _, _, _, _, _, _, _, _, _, _, _, _, _, _, _ => none
 | k + 1, x8, x307000, x307001, x307002, x307003, x307004, x308000, x308001, x308002, x308003, x317000, x317001, x317002, x317003, x317004 => if x8 < (x307004.length : Int) then (if 0 ≤ x8 then (if x317004.length < 4398046511104 then (examboardref15_Apply.l0 k (wrap64 (x8 + 1)) x307000 x307001 x307002 x307003 x307004 x308000 x308001 x308002 x308003 x317000 x317001 x317002 x317003 (x317004 ++ [(⟨(rd_T34 x307004 x8).f0, (rd_T34 x307004 x8).f1, (rd_T34 x307004 x8).f2, (rd_T34 x307004 x8).f3⟩ : S34)])) else (none)) else (none)) else (if x317004.length < 4398046511104 then ((some (x317004 ++ [(⟨x308000, x308001, x308002, x308003⟩ : S34)] : List (S34))).bind fun y321 => (if x308000 = 1 then (some (2, x317001, x317002, x317003, y321, 0)) else (if x308000 = 2 then (if x317002.length < 17592186044416 then ((some (x317002 ++ [x308001] : List Int)).bind fun y324 => (if (y324.length : Int) ≥ 2 then (some (3, x317001, y324, x317003, y321, 0)) else (some (x317000, x317001, y324, x317003, y321, 0)))) else (none)) else (if x308000 = 3 then (examboardref15_Apply.j1 k x308000 (x308000 == 3) x308000 x308001 x308002 x308003 x317000 x317001 x317002 x317003 y321) else (examboardref15_Apply.j1 k x308000 (x308000 == 9) x308000 x308001 x308002 x308003 x317000 x317001 x317002 x317003 y321))))) else (none))
def examboardref15_Apply.j1 : Nat → Int → Bool → Int → Int → Int → Int → Int → Int → List Int → List Int → List (S34) → Option (Int × Int × List Int × List Int × (List (S34)) × Int)
 | 0, _, _, _, _, _, _, _, _, _, _, _ => none
 | k + 1, x51, x69, x308000, x308001, x308002, x308003, x317000, x317001, x317002, x317003, x317004 => if x69 = true then (some (1, x317001, ([] : List Int), ([] : List Int), x317004, 0)) else (if x51 = 4 then (if x317003.length < 17592186044416 then (some (4, x317001, x317002, (x317003 ++ [x308001]), x317004, 0)) else (none)) else (if x51 = 5 then (examboardref15_Apply.j2 k x51 (x51 == 5) x317000 x317001 x317002 x317003 x317004) else (examboardref15_Apply.j2 k x51 (x51 == 7) x317000 x317001 x317002 x317003 x317004)))
def examboardref15_Apply.j2 : Nat → Int → Bool → Int → Int → List Int → List Int → List (S34) → Option (Int × Int × List Int × List Int × (List (S34)) × Int)
 | 0, _, _, _, _, _, _, _ => none
 | k + 1, x51, x85, x317000, x317001, x317002, x317003, x317004 => if x85 = true then (some (5, x317001, x317002, x317003, x317004, 0)) else (if x51 = 6 then (some (6, x317001, x317002, x317003, x317004, 0)) else (if x51 = 8 then (some (7, x317001, x317002, x317003, x317004, 0)) else (some (x317000, x317001, x317002, x317003, x317004, 0))))
end
def examboardref15_Apply.f (k : Nat) (a0_0 : Int) (a0_1 : Int) (l0_2 : List Int) (l0_3 : List Int) (l0_4 : List (S34)) (a1_0 : Int) (a1_1 : Int) (a1_2 : Int) (a1_3 : Int) : Option (Int × Int × List Int × List Int × (List (S34)) × Int) := (examboardref15_Allowed.f k a0_0 a0_1 l0_2 l0_3 l0_4 a1_0 a1_1 a1_2 a1_3).bind fun t309 => (if t309 = 0 then ((examboardref15_ints.f k l0_2).bind fun t310 => ((examboardref15_ints.f k l0_3).bind fun t313 => (examboardref15_Apply.l0 k 0 a0_0 a0_1 l0_2 l0_3 l0_4 a1_0 a1_1 a1_2 a1_3 a0_0 a0_1 t310 t313 ([] : List (S34))))) else (some (0, 0, ([] : List Int), ([] : List Int), ([] : List (S34)), t309)))
theorem examboardref15_Apply.mono_l : ∀ k, (∀ y0 y1 y2 y3 y4 y5 y6 y7 y8 y9 y10 y11 y12 y13 y14, LeO (examboardref15_Apply.l0 k y0 y1 y2 y3 y4 y5 y6 y7 y8 y9 y10 y11 y12 y13 y14) (examboardref15_Apply.l0 (k + 1) y0 y1 y2 y3 y4 y5 y6 y7 y8 y9 y10 y11 y12 y13 y14)) ∧ (∀ y0 y1 y2 y3 y4 y5 y6 y7 y8 y9 y10, LeO (examboardref15_Apply.j1 k y0 y1 y2 y3 y4 y5 y6 y7 y8 y9 y10) (examboardref15_Apply.j1 (k + 1) y0 y1 y2 y3 y4 y5 y6 y7 y8 y9 y10)) ∧ (∀ y0 y1 y2 y3 y4 y5 y6, LeO (examboardref15_Apply.j2 k y0 y1 y2 y3 y4 y5 y6) (examboardref15_Apply.j2 (k + 1) y0 y1 y2 y3 y4 y5 y6))
 | 0 => ⟨fun _ _ _ _ _ _ _ _ _ _ _ _ _ _ _ r h => by simp [examboardref15_Apply.l0] at h, fun _ _ _ _ _ _ _ _ _ _ _ r h => by simp [examboardref15_Apply.j1] at h, fun _ _ _ _ _ _ _ r h => by simp [examboardref15_Apply.j2] at h⟩
 | k + 1 => by
  obtain ⟨ih0, ih1, ih2⟩ := examboardref15_Apply.mono_l k
  refine ⟨?_, ?_, ?_⟩
  ·
   intro y0 y1 y2 y3 y4 y5 y6 y7 y8 y9 y10 y11 y12 y13 y14
   unfold examboardref15_Apply.l0
   repeat' first
   | (with_reducible exact ih0 _ _ _ _ _ _ _ _ _ _ _ _ _ _ _)
   | (with_reducible exact ih1 _ _ _ _ _ _ _ _ _ _ _)
   | (with_reducible exact ih2 _ _ _ _ _ _ _)
   | (with_reducible exact examboardref15_Allowed.mono _ _ _ _ _ _ _ _ _ _)
   | (with_reducible exact examboardref15_ints.mono _ _)
   | (with_reducible exact LeO.refl _)
   | (with_reducible exact LeO.none _)
   | (with_reducible refine LeO.ite ?_ ?_)
   | (with_reducible refine LeO.bind ?_ (fun _ => ?_))
   | exact ih0 _ _ _ _ _ _ _ _ _ _ _ _ _ _ _
   | exact ih1 _ _ _ _ _ _ _ _ _ _ _
   | exact ih2 _ _ _ _ _ _ _
   | exact examboardref15_Allowed.mono _ _ _ _ _ _ _ _ _ _
   | exact examboardref15_ints.mono _ _
   | exact LeO.none _
   | refine LeO.ite ?_ ?_
   | refine LeO.bind ?_ (fun _ => ?_)
  ·
   intro y0 y1 y2 y3 y4 y5 y6 y7 y8 y9 y10
   unfold examboardref15_Apply.j1
   repeat' first
   | (with_reducible exact ih0 _ _ _ _ _ _ _ _ _ _ _ _ _ _ _)
   | (with_reducible exact ih1 _ _ _ _ _ _ _ _ _ _ _)
   | (with_reducible exact ih2 _ _ _ _ _ _ _)
   | (with_reducible exact examboardref15_Allowed.mono _ _ _ _ _ _ _ _ _ _)
   | (with_reducible exact examboardref15_ints.mono _ _)
   | (with_reducible exact LeO.refl _)
   | (with_reducible exact LeO.none _)
   | (with_reducible refine LeO.ite ?_ ?_)
   | (with_reducible refine LeO.bind ?_ (fun _ => ?_))
   | exact ih0 _ _ _ _ _ _ _ _ _ _ _ _ _ _ _
   | exact ih1 _ _ _ _ _ _ _ _ _ _ _
   | exact ih2 _ _ _ _ _ _ _
   | exact examboardref15_Allowed.mono _ _ _ _ _ _ _ _ _ _
   | exact examboardref15_ints.mono _ _
   | exact LeO.none _
   | refine LeO.ite ?_ ?_
   | refine LeO.bind ?_ (fun _ => ?_)
  ·
   intro y0 y1 y2 y3 y4 y5 y6
   unfold examboardref15_Apply.j2
   repeat' first
   | (with_reducible exact ih0 _ _ _ _ _ _ _ _ _ _ _ _ _ _ _)
   | (with_reducible exact ih1 _ _ _ _ _ _ _ _ _ _ _)
   | (with_reducible exact ih2 _ _ _ _ _ _ _)
   | (with_reducible exact examboardref15_Allowed.mono _ _ _ _ _ _ _ _ _ _)
   | (with_reducible exact examboardref15_ints.mono _ _)
   | (with_reducible exact LeO.refl _)
   | (with_reducible exact LeO.none _)
   | (with_reducible refine LeO.ite ?_ ?_)
   | (with_reducible refine LeO.bind ?_ (fun _ => ?_))
   | exact ih0 _ _ _ _ _ _ _ _ _ _ _ _ _ _ _
   | exact ih1 _ _ _ _ _ _ _ _ _ _ _
   | exact ih2 _ _ _ _ _ _ _
   | exact examboardref15_Allowed.mono _ _ _ _ _ _ _ _ _ _
   | exact examboardref15_ints.mono _ _
   | exact LeO.none _
   | refine LeO.ite ?_ ?_
   | refine LeO.bind ?_ (fun _ => ?_)
theorem examboardref15_Apply.mono : ∀ a0 a1 a2 a3 a4 a5 a6 a7 a8 k, LeO (examboardref15_Apply.f k a0 a1 a2 a3 a4 a5 a6 a7 a8) (examboardref15_Apply.f (k + 1) a0 a1 a2 a3 a4 a5 a6 a7 a8) := by
 intro a0 a1 a2 a3 a4 a5 a6 a7 a8 k
 obtain ⟨ih0, ih1, ih2⟩ := examboardref15_Apply.mono_l k
 unfold examboardref15_Apply.f
 repeat' first
   | (with_reducible exact ih0 _ _ _ _ _ _ _ _ _ _ _ _ _ _ _)
   | (with_reducible exact ih1 _ _ _ _ _ _ _ _ _ _ _)
   | (with_reducible exact ih2 _ _ _ _ _ _ _)
   | (with_reducible exact examboardref15_Allowed.mono _ _ _ _ _ _ _ _ _ _)
   | (with_reducible exact examboardref15_ints.mono _ _)
   | (with_reducible exact LeO.refl _)
   | (with_reducible exact LeO.none _)
   | (with_reducible refine LeO.ite ?_ ?_)
   | (with_reducible refine LeO.bind ?_ (fun _ => ?_))
   | exact ih0 _ _ _ _ _ _ _ _ _ _ _ _ _ _ _
   | exact ih1 _ _ _ _ _ _ _ _ _ _ _
   | exact ih2 _ _ _ _ _ _ _
   | exact examboardref15_Allowed.mono _ _ _ _ _ _ _ _ _ _
   | exact examboardref15_ints.mono _ _
   | exact LeO.none _
   | refine LeO.ite ?_ ?_
   | refine LeO.bind ?_ (fun _ => ?_)
def examboardref15_Apply.T4 : Bool × List (List Nat × List Nat) := (true, [([], []), ([0], [0]), ([], []), ([2], [2]), ([], []), ([4], [4]), ([5], [5]), ([], []), ([7], [7]), ([8, 6], [8]), ([1, 3, 6, 9], [1, 3, 6, 9]), ([], []), ([11, 10, 9, 0, 1, 2, 3, 4, 5, 6, 7, 8, 9, 10, 11], [10, 11])])
def examboardref15_Apply.B4 : List Nat := [0, 1, 0, 4, 0, 16, 48, 0, 128, 496, 1023, 0, 4095]
theorem examboardref15_Apply.tab4 : rtab .any (opsOf Try.f24 4) = examboardref15_Apply.T4 := by kernel_rfl
theorem examboardref15_Apply.bits4 : waitsOk examboardref15_Apply.T4.2 examboardref15_Apply.B4 = true := by kernel_rfl
def examboardref15_Apply.T8 : Bool × List (List Nat × List Nat) := (true, [([], []), ([0], [0]), ([], []), ([2], [2]), ([], []), ([3, 4], [3, 4]), ([5], [5]), ([6], [6]), ([1, 7], [1, 7]), ([0, 1, 2, 3, 4, 5, 6, 7, 8], []), ([9, 8, 8, 0, 1, 2, 3, 4, 5, 6, 7, 8], [8, 9])])
def examboardref15_Apply.B8 : List Nat := [0, 1, 0, 4, 0, 28, 60, 124, 255, 511, 1023]
theorem examboardref15_Apply.tab8 : rtab .any (opsOf Try.f24 8) = examboardref15_Apply.T8 := by kernel_rfl
theorem examboardref15_Apply.bits8 : waitsOk examboardref15_Apply.T8.2 examboardref15_Apply.B8 = true := by kernel_rfl
set_option maxHeartbeats 8000000 in
set_option maxRecDepth 100000 in
theorem examboardref15_Apply.calls (k : Nat) (a0_0 : Int) (a0_1 : Int) (A0_2 : Option Addr) (c0_2 : Nat) (l0_2 : List Int) (A0_3 : Option Addr) (c0_3 : Nat) (l0_3 : List Int) (A0_4 : Option Addr) (c0_4 : Nat) (l0_4 : List (S34)) (a1_0 : Int) (a1_1 : Int) (a1_2 : Int) (a1_3 : Int) (r1 : Int) (r2 : Int) (r3 : List Int) (r4 : List Int) (r5 : List (S34)) (r6 : Int) (w : World) (hr0_2 : Kd.C (Kd.int .i64) w A0_2 l0_2.length l0_2) (hc0_2 : l0_2.length ≤ c0_2) (hr0_3 : Kd.C (Kd.int .i64) w A0_3 l0_3.length l0_3) (hc0_3 : l0_3.length ≤ c0_3) (hr0_4 : Kd.C k34 w A0_4 l0_4.length l0_4) (hc0_4 : l0_4.length ≤ c0_4) (h : examboardref15_Apply.f k a0_0 a0_1 l0_2 l0_3 l0_4 a1_0 a1_1 a1_2 a1_3 = some (r1, r2, r3, r4, r5, r6)) :
  Calls Try.prog 24 #[.agg #[.int .i64 a0_0, .int .i64 a0_1, .slice A0_2 l0_2.length c0_2, .slice A0_3 l0_3.length c0_3, .slice A0_4 l0_4.length c0_4], .agg #[.int .i64 a1_0, .int .i64 a1_1, .int .i64 a1_2, .int .i64 a1_3]] w fun e w' => ∃ v2_ v3_ v4_ : Value, e = .returned (.tuple #[.agg #[.int .i64 r1, .int .i64 r2, v2_, v3_, v4_], .int .i64 r6]) ∧ Kd.R (Kd.int .i64) 3 w' w.heap.size (fun k_ => some k_ ≠ (v3_ : Value).ownBlock) v2_ r3 ∧ Kd.R (Kd.int .i64) 3 w' w.heap.size (fun k_ => some k_ ≠ (v2_ : Value).ownBlock) v3_ r4 ∧ Kd.R k34 34 w' w.heap.size (fun _ => True) v4_ r5 ∧ Below w.heap.size w w' := by
 have hu25 := Try.underlying25
 have hu34 := Try.underlying34
 have HR0_2 := Aside0.mk hr0_2
 have HC0_2 := Aside0.mk hc0_2
 clear hr0_2 hc0_2
 have HR0_3 := Aside0.mk hr0_3
 have HC0_3 := Aside0.mk hc0_3
 clear hr0_3 hc0_3
 have HR0_4 := Aside0.mk hr0_4
 have HC0_4 := Aside0.mk hc0_4
 clear hr0_4 hc0_4
 have HB := Aside0.mk (Below.refl w.heap.size w)
 have H : ((examboardref15_Allowed.f k a0_0 a0_1 l0_2 l0_3 l0_4 a1_0 a1_1 a1_2 a1_3).bind fun t309 => (if t309 = 0 then ((examboardref15_ints.f k l0_2).bind fun t310 => ((examboardref15_ints.f k l0_3).bind fun t313 => (examboardref15_Apply.l0 k 0 a0_0 a0_1 l0_2 l0_3 l0_4 a1_0 a1_1 a1_2 a1_3 a0_0 a0_1 t310 t313 ([] : List (S34))))) else (some (0, 0, ([] : List Int), ([] : List Int), ([] : List (S34)), t309)))) = some (r1, r2, r3, r4, r5, r6) := h
 clear h
 replace H := Option.bind_eq_some_iff.mp H
 obtain ⟨t309, A30, H⟩ := H
 replace H : (if t309 = 0 then ((examboardref15_ints.f k l0_2).bind fun t310 => ((examboardref15_ints.f k l0_3).bind fun t313 => (examboardref15_Apply.l0 k 0 a0_0 a0_1 l0_2 l0_3 l0_4 a1_0 a1_1 a1_2 a1_3 a0_0 a0_1 t310 t313 ([] : List (S34))))) else (some (0, 0, ([] : List Int), ([] : List Int), ([] : List (S34)), t309))) = some (r1, r2, r3, r4, r5, r6) := H
 have A3 := Aside0.mk A30
 clear A30
 by_cases c4 : t309 = 0
 ·
  rw [if_pos c4] at H
  have c4b0 : (t309 == 0) = true := beq_iff_eq.mpr c4
  have c4b1 : (t309 != 0) = false := bne_eq_false_iff_eq.mpr c4
  clear c4
  replace H := Option.bind_eq_some_iff.mp H
  obtain ⟨t310, A50, H⟩ := H
  replace H : ((examboardref15_ints.f k l0_3).bind fun t313 => (examboardref15_Apply.l0 k 0 a0_0 a0_1 l0_2 l0_3 l0_4 a1_0 a1_1 a1_2 a1_3 a0_0 a0_1 t310 t313 ([] : List (S34)))) = some (r1, r2, r3, r4, r5, r6) := H
  have A5 := Aside0.mk A50
  clear A50
  replace H := Option.bind_eq_some_iff.mp H
  obtain ⟨t313, A60, H⟩ := H
  replace H : (examboardref15_Apply.l0 k 0 a0_0 a0_1 l0_2 l0_3 l0_4 a1_0 a1_1 a1_2 a1_3 a0_0 a0_1 t310 t313 ([] : List (S34))) = some (r1, r2, r3, r4, r5, r6) := H
  have A6 := Aside0.mk A60
  clear A60
  have H' := Aside0.mk H
  clear H
  go_enter Try.func24, Try.ntmps24
  try go_wp2_with (first | ((with_reducible refine gate_dst (N := 2) rfl ?_); refine box_event ?hg (N := 2) ?hd (cs := #[.int .i64 a0_0, .int .i64 a0_1, .slice A0_2 l0_2.length c0_2, .slice A0_3 l0_3.length c0_3, .slice A0_4 l0_4.length c0_4]) (t := 25) ?hr ?_; (case hd => rfl); (case hg => rfl); (case hr => first | (go_simp; done) | (go_simp; rfl)); intro gb306 hg w7 hbox hb; have n0_ := Aside0.mk (below_step (by repeat (first | (with_reducible first | exact HB.out | apply below_alloc | apply pw_below_drewN | apply below_drew1) | exact HB.out)) hb); have n1_ := Aside0.mk (hbox); have n2_ := Aside0.mk ((by rw [hg]; exact (below_size (by repeat (first | (with_reducible first | exact HB.out | apply below_alloc | apply pw_below_drewN | apply below_drew1) | exact HB.out))) : w.heap.size ≤ gb306)); have n3_ := Aside0.mk ((by rw [hg]; exact (below_size (by repeat (first | (with_reducible first | exact HB.out | apply below_alloc | apply pw_below_drewN | apply below_drew1) | exact HB.out))) : w.heap.size ≤ gb306)); clear HB; have HB := n0_; have BK306 := n1_; have GW306 := n2_; have GE306 := n3_; clear n0_ n1_ n2_ n3_; clear hb hbox hg) | ((with_reducible refine gate_dst (N := 3) rfl ?_); refine box_event ?hg (N := 3) ?hd (cs := #[.int .i64 a1_0, .int .i64 a1_1, .int .i64 a1_2, .int .i64 a1_3]) (t := 34) ?hr ?_; (case hd => rfl); (case hg => rfl); (case hr => first | (go_simp; done) | (go_simp; rfl)); intro gb307 hg w8 hbox hb; have n0_ := Aside0.mk (blk_below (g := gb306) (o := .cells #[.int .i64 a0_0, .int .i64 a0_1, .slice A0_2 l0_2.length c0_2, .slice A0_3 l0_3.length c0_3, .slice A0_4 l0_4.length c0_4] 25 (0, 0)) (by (with_reducible repeat (first | refine blk_drewN ?_ _ | refine blk_drew ?_ | refine blk_alloc ?_ _)); exact BK306.out) hb); have n1_ := Aside0.mk (below_step (by repeat (first | (with_reducible first | exact HB.out | apply below_alloc | apply pw_below_drewN | apply below_drew1 | refine below_set ?_ GE306.out) | exact HB.out)) hb); have n2_ := Aside0.mk (hbox); have n3_ := Aside0.mk ((by rw [hg]; exact (below_size (by repeat (first | (with_reducible first | exact HB.out | apply below_alloc | apply pw_below_drewN | apply below_drew1 | refine below_set ?_ GE306.out) | exact HB.out))) : w.heap.size ≤ gb307)); have n4_ := Aside0.mk ((by rw [hg]; exact (below_size (by repeat (first | (with_reducible first | exact HB.out | apply below_alloc | apply pw_below_drewN | apply below_drew1 | refine below_set ?_ GE306.out) | exact HB.out))) : w.heap.size ≤ gb307)); have n5_ := Aside0.mk ((by rw [hg]; exact Nat.ne_of_lt (blk_lt (g := gb306) (o := .cells #[.int .i64 a0_0, .int .i64 a0_1, .slice A0_2 l0_2.length c0_2, .slice A0_3 l0_3.length c0_3, .slice A0_4 l0_4.length c0_4] 25 (0, 0)) (by (with_reducible repeat (first | refine blk_drewN ?_ _ | refine blk_drew ?_ | refine blk_alloc ?_ _)); exact BK306.out)) : gb306 ≠ gb307)); have n6_ := Aside0.mk ((by rw [hg]; exact Nat.ne_of_gt (blk_lt (g := gb306) (o := .cells #[.int .i64 a0_0, .int .i64 a0_1, .slice A0_2 l0_2.length c0_2, .slice A0_3 l0_3.length c0_3, .slice A0_4 l0_4.length c0_4] 25 (0, 0)) (by (with_reducible repeat (first | refine blk_drewN ?_ _ | refine blk_drew ?_ | refine blk_alloc ?_ _)); exact BK306.out)) : gb307 ≠ gb306)); clear BK306; clear HB; have BK306 := n0_; have HB := n1_; have BK307 := n2_; have GW307 := n3_; have GE307 := n4_; have NB306_307 := n5_; have NB307_306 := n6_; clear n0_ n1_ n2_ n3_ n4_ n5_ n6_; clear hb hbox hg) | ((with_reducible refine gate_dst (N := 4) rfl ?_); refine box_event ?hg (N := 4) ?hd (cs := #[.int .i64 0, .int .i64 0, .slice none 0 0, .slice none 0 0, .slice none 0 0]) (t := 25) ?hr ?_; (case hd => rfl); (case hg => rfl); (case hr => first | (go_simp; done) | (go_simp; rfl)); intro gb308 hg w9 hbox hb; have n0_ := Aside0.mk (blk_below (g := gb306) (o := .cells #[.int .i64 a0_0, .int .i64 a0_1, .slice A0_2 l0_2.length c0_2, .slice A0_3 l0_3.length c0_3, .slice A0_4 l0_4.length c0_4] 25 (0, 0)) (by (with_reducible repeat (first | refine blk_drewN ?_ _ | refine blk_drew ?_ | refine blk_alloc ?_ _)); exact BK306.out) hb); have n1_ := Aside0.mk (blk_below (g := gb307) (o := .cells #[.int .i64 a1_0, .int .i64 a1_1, .int .i64 a1_2, .int .i64 a1_3] 34 (0, 0)) (by (with_reducible repeat (first | refine blk_drewN ?_ _ | refine blk_drew ?_ | refine blk_alloc ?_ _)); exact BK307.out) hb); have n2_ := Aside0.mk (below_step (by repeat (first | (with_reducible first | exact HB.out | apply below_alloc | apply pw_below_drewN | apply below_drew1 | refine below_set ?_ GE306.out | refine below_set ?_ GE307.out) | exact HB.out)) hb); have n3_ := Aside0.mk (hbox); have n4_ := Aside0.mk ((by rw [hg]; exact (below_size (by repeat (first | (with_reducible first | exact HB.out | apply below_alloc | apply pw_below_drewN | apply below_drew1 | refine below_set ?_ GE306.out | refine below_set ?_ GE307.out) | exact HB.out))) : w.heap.size ≤ gb308)); have n5_ := Aside0.mk ((by rw [hg]; exact (below_size (by repeat (first | (with_reducible first | exact HB.out | apply below_alloc | apply pw_below_drewN | apply below_drew1 | refine below_set ?_ GE306.out | refine below_set ?_ GE307.out) | exact HB.out))) : w.heap.size ≤ gb308)); have n6_ := Aside0.mk ((by rw [hg]; exact Nat.ne_of_lt (blk_lt (g := gb306) (o := .cells #[.int .i64 a0_0, .int .i64 a0_1, .slice A0_2 l0_2.length c0_2, .slice A0_3 l0_3.length c0_3, .slice A0_4 l0_4.length c0_4] 25 (0, 0)) (by (with_reducible repeat (first | refine blk_drewN ?_ _ | refine blk_drew ?_ | refine blk_alloc ?_ _)); exact BK306.out)) : gb306 ≠ gb308)); have n7_ := Aside0.mk ((by rw [hg]; exact Nat.ne_of_gt (blk_lt (g := gb306) (o := .cells #[.int .i64 a0_0, .int .i64 a0_1, .slice A0_2 l0_2.length c0_2, .slice A0_3 l0_3.length c0_3, .slice A0_4 l0_4.length c0_4] 25 (0, 0)) (by (with_reducible repeat (first | refine blk_drewN ?_ _ | refine blk_drew ?_ | refine blk_alloc ?_ _)); exact BK306.out)) : gb308 ≠ gb306)); have n8_ := Aside0.mk ((by rw [hg]; exact Nat.ne_of_lt (blk_lt (g := gb307) (o := .cells #[.int .i64 a1_0, .int .i64 a1_1, .int .i64 a1_2, .int .i64 a1_3] 34 (0, 0)) (by (with_reducible repeat (first | refine blk_drewN ?_ _ | refine blk_drew ?_ | refine blk_alloc ?_ _)); exact BK307.out)) : gb307 ≠ gb308)); have n9_ := Aside0.mk ((by rw [hg]; exact Nat.ne_of_gt (blk_lt (g := gb307) (o := .cells #[.int .i64 a1_0, .int .i64 a1_1, .int .i64 a1_2, .int .i64 a1_3] 34 (0, 0)) (by (with_reducible repeat (first | refine blk_drewN ?_ _ | refine blk_drew ?_ | refine blk_alloc ?_ _)); exact BK307.out)) : gb308 ≠ gb307)); clear BK306; clear BK307; clear HB; have BK306 := n0_; have BK307 := n1_; have HB := n2_; have BK308 := n3_; have GW308 := n4_; have GE308 := n5_; have NB306_308 := n6_; have NB308_306 := n7_; have NB307_308 := n8_; have NB308_307 := n9_; clear n0_ n1_ n2_ n3_ n4_ n5_ n6_ n7_ n8_ n9_; clear hb hbox hg; have hnb10 := NB306_307.out; have hnc10 := NB307_306.out; have hnb11 := NB306_308.out; have hnc11 := NB308_306.out; have hcz12_0 : w9.cell? ⟨gb306, 0, none⟩ = some (.int .i64 a0_0) := (blk_cell BK306.out 0).trans rfl; have hcz12_1 : w9.cell? ⟨gb306, 1, none⟩ = some (.int .i64 a0_1) := (blk_cell BK306.out 1).trans rfl; have hcz12_2 : w9.cell? ⟨gb306, 2, none⟩ = some (.slice A0_2 l0_2.length c0_2) := (blk_cell BK306.out 2).trans rfl; have hcz12_3 : w9.cell? ⟨gb306, 3, none⟩ = some (.slice A0_3 l0_3.length c0_3) := (blk_cell BK306.out 3).trans rfl; have hcz12_4 : w9.cell? ⟨gb306, 4, none⟩ = some (.slice A0_4 l0_4.length c0_4) := (blk_cell BK306.out 4).trans rfl; have hfz12_0 := blk_frozen BK306.out 0; have hfz12_1 := blk_frozen BK306.out 1; have hfz12_2 := blk_frozen BK306.out 2; have hfz12_3 := blk_frozen BK306.out 3; have hfz12_4 := blk_frozen BK306.out 4; have hnb13 := NB307_308.out; have hnc13 := NB308_307.out; have hcz14_0 : w9.cell? ⟨gb307, 0, none⟩ = some (.int .i64 a1_0) := (blk_cell BK307.out 0).trans rfl; have hcz14_1 : w9.cell? ⟨gb307, 1, none⟩ = some (.int .i64 a1_1) := (blk_cell BK307.out 1).trans rfl; have hcz14_2 : w9.cell? ⟨gb307, 2, none⟩ = some (.int .i64 a1_2) := (blk_cell BK307.out 2).trans rfl; have hcz14_3 : w9.cell? ⟨gb307, 3, none⟩ = some (.int .i64 a1_3) := (blk_cell BK307.out 3).trans rfl; have hfz14_0 := blk_frozen BK307.out 0; have hfz14_1 := blk_frozen BK307.out 1; have hfz14_2 := blk_frozen BK307.out 2; have hfz14_3 := blk_frozen BK307.out 3) | ((with_reducible refine gate_callee (f := 19) rfl ?_); refine goesL_ (some 11) rfl rfl Try.func19 (by kernel_rfl) rfl #[.agg #[.int .i64 a0_0, .int .i64 a0_1, .slice A0_2 l0_2.length c0_2, .slice A0_3 l0_3.length c0_3, .slice A0_4 l0_4.length c0_4], .agg #[.int .i64 a1_0, .int .i64 a1_1, .int .i64 a1_2, .int .i64 a1_3]] rfl (by (try simp only [List.map_toArray, List.map_cons, List.map_nil]); first | done | rfl | (simp only [List.length_drop, List.length_take]; rfl)) ?_; (with_reducible refine (examboardref15_Allowed.calls k a0_0 a0_1 _ _ l0_2 _ _ l0_3 _ _ l0_4 a1_0 a1_1 a1_2 a1_3 t309 _ ?side1 ?side2 ?side3 ?side4 ?side5 ?side6 A3.out).mono ?_); (case side1 => repeat (first | exact (Kd.C_below HR0_2.out HB.out) | (with_reducible refine Kd.C_alloc ?_ _) | (with_reducible refine Kd.C_drewN ?_ _) | (with_reducible refine Kd.C_drew ?_))); (case side2 => exact HC0_2.out); (case side3 => repeat (first | exact (Kd.C_below HR0_3.out HB.out) | (with_reducible refine Kd.C_alloc ?_ _) | (with_reducible refine Kd.C_drewN ?_ _) | (with_reducible refine Kd.C_drew ?_))); (case side4 => exact HC0_3.out); (case side5 => repeat (first | exact (Kd.C_below HR0_4.out HB.out) | (with_reducible refine Kd.C_alloc ?_ _) | (with_reducible refine Kd.C_drewN ?_ _) | (with_reducible refine Kd.C_drew ?_))); (case side6 => exact HC0_4.out); rintro e w15 ⟨rfl, hb⟩; refine ⟨_, rfl, ?_⟩; have n0_ := Aside0.mk (blk_below (g := gb306) (o := .cells #[.int .i64 a0_0, .int .i64 a0_1, .slice A0_2 l0_2.length c0_2, .slice A0_3 l0_3.length c0_3, .slice A0_4 l0_4.length c0_4] 25 (0, 0)) (by (with_reducible repeat (first | refine blk_drewN ?_ _ | refine blk_drew ?_ | refine blk_alloc ?_ _)); exact BK306.out) hb); have n1_ := Aside0.mk (blk_below (g := gb307) (o := .cells #[.int .i64 a1_0, .int .i64 a1_1, .int .i64 a1_2, .int .i64 a1_3] 34 (0, 0)) (by (with_reducible repeat (first | refine blk_drewN ?_ _ | refine blk_drew ?_ | refine blk_alloc ?_ _)); exact BK307.out) hb); have n2_ := Aside0.mk (blk_below (g := gb308) (o := .cells #[.int .i64 0, .int .i64 0, .slice none 0 0, .slice none 0 0, .slice none 0 0] 25 (0, 0)) (by (with_reducible repeat (first | refine blk_drewN ?_ _ | refine blk_drew ?_ | refine blk_alloc ?_ _)); exact BK308.out) hb); have n3_ := Aside0.mk (below_step (by repeat (first | (with_reducible first | exact HB.out | apply below_alloc | apply pw_below_drewN | apply below_drew1 | refine below_set ?_ GE306.out | refine below_set ?_ GE307.out | refine below_set ?_ GE308.out) | exact HB.out)) hb); clear BK306; clear BK307; clear BK308; clear HB; have BK306 := n0_; have BK307 := n1_; have BK308 := n2_; have HB := n3_; clear n0_ n1_ n2_ n3_; (try clear hb); (try clear hb2); (try clear hk); (try clear hi)))
  have n0_ := Aside0.mk (blk_drew BK306.out)
  have n1_ := Aside0.mk (blk_drew BK307.out)
  have n2_ := Aside0.mk (blk_drew BK308.out)
  have n3_ := Aside0.mk (below_drew1 HB.out)
  clear BK306
  clear BK307
  clear BK308
  clear HB
  have BK306 := n0_
  have BK307 := n1_
  have BK308 := n2_
  have HB := n3_
  clear n0_ n1_ n2_ n3_
  refine start_ (n := 13) (S := fun w' => True) (ds := []) #[false, false, false, false, false, false, false, false, false, false, false, false, false] (by kernel_rfl) rfl rfl trivial (fun hHeld => ?_); refine with_tabW examboardref15_Apply.tab4 examboardref15_Apply.bits4 (fun HT_ HW_ => ?_)
  generalize w15.drew = w16 at BK306 BK307 BK308 HB hHeld ⊢
  refine pure_ (i := 0) (N := some 16) (v := ?_) (a' := ?_) #[true, false, false, false, false, false, false, false, false, false, false, false, false] rfl rfl (any_of HT_.out (by kernel_rfl)) (fun _ _ _ h => h) (Or.inl ⟨by rfl, ?_⟩) ?_ ?_
  rotate_left
  ·
   intro w'
   go_simp
   with_reducible rfl
  rotate_left
  ·
   simp only [Act.put, List.setIfInBounds_toArray, List.set_cons_zero, List.set_cons_succ, i64_w, i32_w]
   rfl
  refine pure_ (i := 2) (N := some 18) (v := ?_) (a' := ?_) #[true, false, true, false, false, false, false, false, false, false, false, false, false] rfl rfl (any_of HT_.out (by kernel_rfl)) (fun _ _ _ h => h) (Or.inl ⟨by rfl, ?_⟩) ?_ ?_
  rotate_left
  ·
   intro w'
   go_simp
   with_reducible rfl
  rotate_left
  ·
   simp only [Act.put, List.setIfInBounds_toArray, List.set_cons_zero, List.set_cons_succ, i64_w, i32_w]
   rfl
  refine pure_ (i := 4) (N := some 20) (v := ?_) (a' := ?_) #[true, false, true, false, true, false, false, false, false, false, false, false, false] rfl rfl (any_of HT_.out (by kernel_rfl)) (fun _ _ _ h => h) (Or.inl ⟨by rfl, ?_⟩) ?_ ?_
  rotate_left
  ·
   intro w'
   go_simp
   with_reducible rfl
  rotate_left
  ·
   simp only [Act.put, List.setIfInBounds_toArray, List.set_cons_zero, List.set_cons_succ, i64_w, i32_w]
   rfl
  refine pure_ (i := 7) (N := some 23) (v := ?_) (a' := ?_) #[true, false, true, false, true, false, false, true, false, false, false, false, false] rfl rfl (any_of HT_.out (by kernel_rfl)) (fun _ _ _ h => h) (Or.inl ⟨by rfl, ?_⟩) ?_ ?_
  rotate_left
  ·
   intro w'
   go_simp
   with_reducible rfl
  rotate_left
  ·
   simp only [Act.put, List.setIfInBounds_toArray, List.set_cons_zero, List.set_cons_succ, i64_w, i32_w]
   rfl
  refine inv_at [1, 3, 5, 6, 8, 9, 10, 11, 12] (fun a0_ b a w' => ∃ (v311 : Value) (v314 : Value) (gb316 : Nat) (m10_ : Value) (m11_ : Value), a = putSel a0_ b [(1, 17, .int .i64 a0_0), (3, 19, .int .i64 a0_1), (5, 21, .slice A0_2 l0_2.length c0_2), (6, 22, v311), (8, 24, .slice A0_3 l0_3.length c0_3), (9, 25, v314), (10, 26, m10_), (11, 7, m11_)] ∧ (w'.heap[gb306]? = some (.cells #[.int .i64 a0_0, .int .i64 a0_1, .slice A0_2 l0_2.length c0_2, .slice A0_3 l0_3.length c0_3, .slice A0_4 l0_4.length c0_4] 25 (0, 0))) ∧ (w'.heap[gb307]? = some (.cells #[.int .i64 a1_0, .int .i64 a1_1, .int .i64 a1_2, .int .i64 a1_3] 34 (0, 0))) ∧ (w'.heap[gb308]? = some (.cells #[.int .i64 0, .int .i64 0, .slice none 0 0, .slice none 0 0, .slice none 0 0] 25 (0, 0))) ∧ (Below w.heap.size w w') ∧ (b 6 = true → Kd.R (Kd.int .i64) 3 w' w.heap.size (fun _ => True) v311 t310) ∧ (b 9 = true → Kd.R (Kd.int .i64) 3 w' w.heap.size (fun _ => True) v314 t313) ∧ (b 11 = true → b 12 = false → w'.heap[gb316]? = some (.cells #[.int .i64 0, .int .i64 0, .slice none 0 0, .slice none 0 0, .slice none 0 0] 25 (0, 0))) ∧ (b 11 = true → w.heap.size ≤ gb316) ∧ (b 11 = true → w.heap.size ≤ gb316) ∧ (b 11 = true → gb306 ≠ gb316) ∧ (b 11 = true → gb316 ≠ gb306) ∧ (b 11 = true → gb307 ≠ gb316) ∧ (b 11 = true → gb316 ≠ gb307) ∧ (b 11 = true → gb308 ≠ gb316) ∧ (b 11 = true → gb316 ≠ gb308) ∧ (b 12 = true → w'.heap[gb316]? = some (.cells #[.int .i64 a0_0, .int .i64 a0_1, v311, v314, .slice none 0 0] 25 (0, 0))) ∧ (b 10 = true → (m10_ : Value) = .agg #[.int .i64 a0_0, .int .i64 a0_1, v311, v314, .slice none 0 0]) ∧ (b 11 = true → (m11_ : Value) = .pointer (some ⟨gb316, 0, none⟩)) ∧ (b 6 = true → b 9 = true → v311.ownBlock = none ∨ v311.ownBlock ≠ v314.ownBlock)) HT_.out HW_.out (by kernel_rfl) (by kernel_rfl) ?_ ?_ ?_
  ·
   exact ⟨.bool false, .bool false, 0, .bool false, .bool false, by simp only [putSel, Bool.false_eq_true, if_false], BK306.out, BK307.out, BK308.out, HB.out, fun h_ => absurd h_ (by decide), fun h_ => absurd h_ (by decide), fun h_ => absurd h_ (by decide), fun h_ => absurd h_ (by decide), fun h_ => absurd h_ (by decide), fun h_ => absurd h_ (by decide), fun h_ => absurd h_ (by decide), fun h_ => absurd h_ (by decide), fun h_ => absurd h_ (by decide), fun h_ => absurd h_ (by decide), fun h_ => absurd h_ (by decide), fun h_ => absurd h_ (by decide), fun h_ => absurd h_ (by decide), fun h_ => absurd h_ (by decide), fun h_ => absurd h_ (by decide)⟩
  ·
   skip
   clear BK306 BK307 BK308 HB
   refine steps_cons ?_ ?_
   ·
    rintro b a w' ⟨v311, v314, gb316, m10_, m11_, ha, Q_BK306, Q_BK307, Q_BK308, Q_HB, Q_HO312, Q_HO315, Q_BK316, Q_GW316, Q_GE316, Q_NB306_316, Q_NB316_306, Q_NB307_316, Q_NB316_307, Q_NB308_316, Q_NB316_308, Q_BK316_e12, Q_X10_, Q_X11_, Q_SEP⟩ hb_ hon hoff
    refine ⟨_, rfl, fun K hK => ?_⟩
    have e16 : a.tmps[16]? = some (.pointer (some ⟨gb306, 0, none⟩)) := by rw [ha]; exact (putSel_off rfl).trans rfl
    replace ha := Aside0.mk ha
    have BK306 := Aside0.mk Q_BK306
    have BK307 := Aside0.mk Q_BK307
    have BK308 := Aside0.mk Q_BK308
    have HB := Aside0.mk Q_HB
    have hc0_ : w'.cell? ⟨gb306, 0, none⟩ = some (.int .i64 a0_0) := (blk_cell BK306.out 0).trans rfl
    have hc1_ : w'.cell? ⟨gb306, 1, none⟩ = some (.int .i64 a0_1) := (blk_cell BK306.out 1).trans rfl
    have hc2_ : w'.cell? ⟨gb306, 2, none⟩ = some (.slice A0_2 l0_2.length c0_2) := (blk_cell BK306.out 2).trans rfl
    have hc3_ : w'.cell? ⟨gb306, 3, none⟩ = some (.slice A0_3 l0_3.length c0_3) := (blk_cell BK306.out 3).trans rfl
    have hc4_ : w'.cell? ⟨gb306, 4, none⟩ = some (.slice A0_4 l0_4.length c0_4) := (blk_cell BK306.out 4).trans rfl
    refine value_ (w1 := w') (v := .int .i64 a0_0) (by rfl) rfl ?_ ?_
    ·
     go_simp
     (try simp only [i64_w])
     try rfl
    refine hK.out _ _ ⟨v311, v314, gb316, m10_, m11_, (by rw [ha.out]; exact putSel_upk 0 hb_ rfl rfl rfl), Q_BK306, Q_BK307, Q_BK308, Q_HB, Q_HO312, Q_HO315, Q_BK316, Q_GW316, Q_GE316, Q_NB306_316, Q_NB316_306, Q_NB307_316, Q_NB316_307, Q_NB308_316, Q_NB316_308, fun h0_ => absurd ((hoff 12 (by kernel_rfl)).symm.trans h0_) (by decide), fun h0_ => absurd ((hoff 10 (by kernel_rfl)).symm.trans h0_) (by decide), Q_X11_, Q_SEP⟩
   refine steps_cons ?_ ?_
   ·
    rintro b a w' ⟨v311, v314, gb316, m10_, m11_, ha, Q_BK306, Q_BK307, Q_BK308, Q_HB, Q_HO312, Q_HO315, Q_BK316, Q_GW316, Q_GE316, Q_NB306_316, Q_NB316_306, Q_NB307_316, Q_NB316_307, Q_NB308_316, Q_NB316_308, Q_BK316_e12, Q_X10_, Q_X11_, Q_SEP⟩ hb_ hon hoff
    refine ⟨_, rfl, fun K hK => ?_⟩
    have e18 : a.tmps[18]? = some (.pointer (some ⟨gb306, 1, none⟩)) := by rw [ha]; exact (putSel_off rfl).trans rfl
    replace ha := Aside0.mk ha
    have BK306 := Aside0.mk Q_BK306
    have BK307 := Aside0.mk Q_BK307
    have BK308 := Aside0.mk Q_BK308
    have HB := Aside0.mk Q_HB
    have hc0_ : w'.cell? ⟨gb306, 0, none⟩ = some (.int .i64 a0_0) := (blk_cell BK306.out 0).trans rfl
    have hc1_ : w'.cell? ⟨gb306, 1, none⟩ = some (.int .i64 a0_1) := (blk_cell BK306.out 1).trans rfl
    have hc2_ : w'.cell? ⟨gb306, 2, none⟩ = some (.slice A0_2 l0_2.length c0_2) := (blk_cell BK306.out 2).trans rfl
    have hc3_ : w'.cell? ⟨gb306, 3, none⟩ = some (.slice A0_3 l0_3.length c0_3) := (blk_cell BK306.out 3).trans rfl
    have hc4_ : w'.cell? ⟨gb306, 4, none⟩ = some (.slice A0_4 l0_4.length c0_4) := (blk_cell BK306.out 4).trans rfl
    refine value_ (w1 := w') (v := .int .i64 a0_1) (by rfl) rfl ?_ ?_
    ·
     go_simp
     (try simp only [i64_w])
     try rfl
    refine hK.out _ _ ⟨v311, v314, gb316, m10_, m11_, (by rw [ha.out]; exact putSel_upk 1 hb_ rfl rfl rfl), Q_BK306, Q_BK307, Q_BK308, Q_HB, Q_HO312, Q_HO315, Q_BK316, Q_GW316, Q_GE316, Q_NB306_316, Q_NB316_306, Q_NB307_316, Q_NB316_307, Q_NB308_316, Q_NB316_308, fun h0_ => absurd ((hoff 12 (by kernel_rfl)).symm.trans h0_) (by decide), fun h0_ => absurd ((hoff 10 (by kernel_rfl)).symm.trans h0_) (by decide), Q_X11_, Q_SEP⟩
   refine steps_cons ?_ ?_
   ·
    rintro b a w' ⟨v311, v314, gb316, m10_, m11_, ha, Q_BK306, Q_BK307, Q_BK308, Q_HB, Q_HO312, Q_HO315, Q_BK316, Q_GW316, Q_GE316, Q_NB306_316, Q_NB316_306, Q_NB307_316, Q_NB316_307, Q_NB308_316, Q_NB316_308, Q_BK316_e12, Q_X10_, Q_X11_, Q_SEP⟩ hb_ hon hoff
    refine ⟨_, rfl, fun K hK => ?_⟩
    have e20 : a.tmps[20]? = some (.pointer (some ⟨gb306, 2, none⟩)) := by rw [ha]; exact (putSel_off rfl).trans rfl
    replace ha := Aside0.mk ha
    have BK306 := Aside0.mk Q_BK306
    have BK307 := Aside0.mk Q_BK307
    have BK308 := Aside0.mk Q_BK308
    have HB := Aside0.mk Q_HB
    have hc0_ : w'.cell? ⟨gb306, 0, none⟩ = some (.int .i64 a0_0) := (blk_cell BK306.out 0).trans rfl
    have hc1_ : w'.cell? ⟨gb306, 1, none⟩ = some (.int .i64 a0_1) := (blk_cell BK306.out 1).trans rfl
    have hc2_ : w'.cell? ⟨gb306, 2, none⟩ = some (.slice A0_2 l0_2.length c0_2) := (blk_cell BK306.out 2).trans rfl
    have hc3_ : w'.cell? ⟨gb306, 3, none⟩ = some (.slice A0_3 l0_3.length c0_3) := (blk_cell BK306.out 3).trans rfl
    have hc4_ : w'.cell? ⟨gb306, 4, none⟩ = some (.slice A0_4 l0_4.length c0_4) := (blk_cell BK306.out 4).trans rfl
    refine value_ (w1 := w') (v := .slice A0_2 l0_2.length c0_2) (by rfl) rfl ?_ ?_
    ·
     go_simp
     (try simp only [i64_w])
     try rfl
    refine hK.out _ _ ⟨v311, v314, gb316, m10_, m11_, (by rw [ha.out]; exact putSel_upk 2 hb_ rfl rfl rfl), Q_BK306, Q_BK307, Q_BK308, Q_HB, fun h0_ => absurd ((hoff 6 (by kernel_rfl)).symm.trans h0_) (by decide), fun h0_ => absurd ((hoff 9 (by kernel_rfl)).symm.trans h0_) (by decide), Q_BK316, Q_GW316, Q_GE316, Q_NB306_316, Q_NB316_306, Q_NB307_316, Q_NB316_307, Q_NB308_316, Q_NB316_308, fun h0_ => absurd ((hoff 12 (by kernel_rfl)).symm.trans h0_) (by decide), fun h0_ => absurd ((hoff 10 (by kernel_rfl)).symm.trans h0_) (by decide), Q_X11_, Q_SEP⟩
   refine steps_cons ?_ ?_
   ·
    rintro b a w' ⟨v311, v314, gb316, m10_, m11_, ha, Q_BK306, Q_BK307, Q_BK308, Q_HB, Q_HO312, Q_HO315, Q_BK316, Q_GW316, Q_GE316, Q_NB306_316, Q_NB316_306, Q_NB307_316, Q_NB316_307, Q_NB308_316, Q_NB316_308, Q_BK316_e12, Q_X10_, Q_X11_, Q_SEP⟩ hb_ hon hoff
    refine ⟨_, rfl, fun K hK => ?_⟩
    have e21 : a.tmps[21]? = some (.slice A0_2 l0_2.length c0_2) := by rw [ha]; exact putSel_on (e := (5, 21, .slice A0_2 l0_2.length c0_2)) 2 rfl rfl (hon 5 (by kernel_rfl)) rfl
    replace ha := Aside0.mk ha
    have BK306 := Aside0.mk Q_BK306
    have BK307 := Aside0.mk Q_BK307
    have BK308 := Aside0.mk Q_BK308
    have HB := Aside0.mk Q_HB
    refine goes_ Try.func30 (by kernel_rfl) rfl #[.slice A0_2 l0_2.length c0_2] (by rfl) rfl rfl (by first | (simp only [List.map_toArray, List.map_cons, List.map_nil, Act.eval, Array.getD_eq_getD_getElem?, Option.getD_some, e21]; done) | (simp only [List.map_toArray, List.map_cons, List.map_nil, Act.eval, Array.getD_eq_getD_getElem?, Option.getD_some, e21]; rfl)) ?_
    with_reducible refine (examboardref15_ints.calls k _ _ l0_2 t310 _ ?side1 ?side2 A5.out).mono ?_
    (case side1 => repeat (first | exact (Kd.C_below HR0_2.out HB.out) | (with_reducible refine Kd.C_alloc ?_ _) | (with_reducible refine Kd.C_drewN ?_ _) | (with_reducible refine Kd.C_drew ?_)))
    (case side2 => exact HC0_2.out)
    rintro e w17 ⟨v311, rfl, ho0, hb⟩
    refine ⟨_, rfl, ?_⟩
    have n0_ := Aside0.mk (Kd.R_lower ho0 (below_size (by repeat (first | (with_reducible first | exact HB.out | apply below_alloc | apply pw_below_drewN | apply below_drew1 | refine below_set ?_ GE306.out | refine below_set ?_ GE307.out | refine below_set ?_ GE308.out) | exact HB.out))))
    have n1_ := Aside0.mk (blk_below (g := gb306) (o := .cells #[.int .i64 a0_0, .int .i64 a0_1, .slice A0_2 l0_2.length c0_2, .slice A0_3 l0_3.length c0_3, .slice A0_4 l0_4.length c0_4] 25 (0, 0)) (by (with_reducible repeat (first | refine blk_drewN ?_ _ | refine blk_drew ?_ | refine blk_alloc ?_ _)); exact BK306.out) hb)
    have n2_ := Aside0.mk (blk_below (g := gb307) (o := .cells #[.int .i64 a1_0, .int .i64 a1_1, .int .i64 a1_2, .int .i64 a1_3] 34 (0, 0)) (by (with_reducible repeat (first | refine blk_drewN ?_ _ | refine blk_drew ?_ | refine blk_alloc ?_ _)); exact BK307.out) hb)
    have n3_ := Aside0.mk (blk_below (g := gb308) (o := .cells #[.int .i64 0, .int .i64 0, .slice none 0 0, .slice none 0 0, .slice none 0 0] 25 (0, 0)) (by (with_reducible repeat (first | refine blk_drewN ?_ _ | refine blk_drew ?_ | refine blk_alloc ?_ _)); exact BK308.out) hb)
    have n4_ := Aside0.mk (below_step (by repeat (first | (with_reducible first | exact HB.out | apply below_alloc | apply pw_below_drewN | apply below_drew1 | refine below_set ?_ GE306.out | refine below_set ?_ GE307.out | refine below_set ?_ GE308.out) | exact HB.out)) hb)
    have z_BK316 := fun (h0_ : b 11 = true) (h1_ : b 12 = false) => (show w17.heap[gb316]? = some (.cells #[.int .i64 0, .int .i64 0, .slice none 0 0, .slice none 0 0, .slice none 0 0] 25 (0, 0)) from by first | exact (blk_below (g := gb316) (o := .cells #[.int .i64 0, .int .i64 0, .slice none 0 0, .slice none 0 0, .slice none 0 0] 25 (0, 0)) (by (with_reducible repeat (first | refine blk_drewN ?_ _ | refine blk_drew ?_ | refine blk_alloc ?_ _)); exact (Q_BK316 h0_ h1_)) hb))
    clear BK306
    clear BK307
    clear BK308
    clear HB
    have HO312 := n0_
    have BK306 := n1_
    have BK307 := n2_
    have BK308 := n3_
    have HB := n4_
    clear n0_ n1_ n2_ n3_ n4_
    (try clear hb)
    (try clear hb2)
    (try clear hk)
    (try clear hi)
    (try clear ho0)
    refine hK.out _ _ ⟨v311, v314, gb316, m10_, m11_, (by rw [ha.out]; exact putSel_upk 3 hb_ rfl rfl rfl), (by (with_reducible repeat (first | refine blk_drewN ?_ _ | refine blk_drew ?_ | refine blk_alloc ?_ _)); exact BK306.out), (by (with_reducible repeat (first | refine blk_drewN ?_ _ | refine blk_drew ?_ | refine blk_alloc ?_ _)); exact BK307.out), (by (with_reducible repeat (first | refine blk_drewN ?_ _ | refine blk_drew ?_ | refine blk_alloc ?_ _)); exact BK308.out), (by repeat (first | (with_reducible first | exact HB.out | apply below_alloc | apply pw_below_drewN | apply below_drew1 | refine below_set ?_ GE306.out | refine below_set ?_ GE307.out | refine below_set ?_ GE308.out) | exact HB.out)), fun _ => (by (with_reducible repeat (first | apply Kd.R_alloc | apply Kd.R_drewN | apply Kd.R_drew)); exact HO312.out), fun h0_ => absurd ((hoff 9 (by kernel_rfl)).symm.trans h0_) (by decide), z_BK316, Q_GW316, Q_GE316, Q_NB306_316, Q_NB316_306, Q_NB307_316, Q_NB316_307, Q_NB308_316, Q_NB316_308, fun h0_ => absurd ((hoff 12 (by kernel_rfl)).symm.trans h0_) (by decide), fun h0_ => absurd ((hoff 10 (by kernel_rfl)).symm.trans h0_) (by decide), Q_X11_, fun _ h9_ => absurd ((hoff 9 (by kernel_rfl)).symm.trans h9_) (by decide)⟩
   refine steps_cons ?_ ?_
   ·
    rintro b a w' ⟨v311, v314, gb316, m10_, m11_, ha, Q_BK306, Q_BK307, Q_BK308, Q_HB, Q_HO312, Q_HO315, Q_BK316, Q_GW316, Q_GE316, Q_NB306_316, Q_NB316_306, Q_NB307_316, Q_NB316_307, Q_NB308_316, Q_NB316_308, Q_BK316_e12, Q_X10_, Q_X11_, Q_SEP⟩ hb_ hon hoff
    refine ⟨_, rfl, fun K hK => ?_⟩
    have e23 : a.tmps[23]? = some (.pointer (some ⟨gb306, 3, none⟩)) := by rw [ha]; exact (putSel_off rfl).trans rfl
    replace ha := Aside0.mk ha
    have BK306 := Aside0.mk Q_BK306
    have BK307 := Aside0.mk Q_BK307
    have BK308 := Aside0.mk Q_BK308
    have HB := Aside0.mk Q_HB
    have hc0_ : w'.cell? ⟨gb306, 0, none⟩ = some (.int .i64 a0_0) := (blk_cell BK306.out 0).trans rfl
    have hc1_ : w'.cell? ⟨gb306, 1, none⟩ = some (.int .i64 a0_1) := (blk_cell BK306.out 1).trans rfl
    have hc2_ : w'.cell? ⟨gb306, 2, none⟩ = some (.slice A0_2 l0_2.length c0_2) := (blk_cell BK306.out 2).trans rfl
    have hc3_ : w'.cell? ⟨gb306, 3, none⟩ = some (.slice A0_3 l0_3.length c0_3) := (blk_cell BK306.out 3).trans rfl
    have hc4_ : w'.cell? ⟨gb306, 4, none⟩ = some (.slice A0_4 l0_4.length c0_4) := (blk_cell BK306.out 4).trans rfl
    refine value_ (w1 := w') (v := .slice A0_3 l0_3.length c0_3) (by rfl) rfl ?_ ?_
    ·
     go_simp
     (try simp only [i64_w])
     try rfl
    refine hK.out _ _ ⟨v311, v314, gb316, m10_, m11_, (by rw [ha.out]; exact putSel_upk 4 hb_ rfl rfl rfl), Q_BK306, Q_BK307, Q_BK308, Q_HB, Q_HO312, fun h0_ => absurd ((hoff 9 (by kernel_rfl)).symm.trans h0_) (by decide), Q_BK316, Q_GW316, Q_GE316, Q_NB306_316, Q_NB316_306, Q_NB307_316, Q_NB316_307, Q_NB308_316, Q_NB316_308, fun h0_ => absurd ((hoff 12 (by kernel_rfl)).symm.trans h0_) (by decide), fun h0_ => absurd ((hoff 10 (by kernel_rfl)).symm.trans h0_) (by decide), Q_X11_, Q_SEP⟩
   refine steps_cons ?_ ?_
   ·
    rintro b a w' ⟨v311, v314, gb316, m10_, m11_, ha, Q_BK306, Q_BK307, Q_BK308, Q_HB, Q_HO312, Q_HO315, Q_BK316, Q_GW316, Q_GE316, Q_NB306_316, Q_NB316_306, Q_NB307_316, Q_NB316_307, Q_NB308_316, Q_NB316_308, Q_BK316_e12, Q_X10_, Q_X11_, Q_SEP⟩ hb_ hon hoff
    refine ⟨_, rfl, fun K hK => ?_⟩
    have e24 : a.tmps[24]? = some (.slice A0_3 l0_3.length c0_3) := by rw [ha]; exact putSel_on (e := (8, 24, .slice A0_3 l0_3.length c0_3)) 4 rfl rfl (hon 8 (by kernel_rfl)) rfl
    replace ha := Aside0.mk ha
    have BK306 := Aside0.mk Q_BK306
    have BK307 := Aside0.mk Q_BK307
    have BK308 := Aside0.mk Q_BK308
    have HB := Aside0.mk Q_HB
    have HO312 := Aside0.mk (Q_HO312 (hon 6 (by kernel_rfl)))
    refine goes_ Try.func30 (by kernel_rfl) rfl #[.slice A0_3 l0_3.length c0_3] (by rfl) rfl rfl (by first | (simp only [List.map_toArray, List.map_cons, List.map_nil, Act.eval, Array.getD_eq_getD_getElem?, Option.getD_some, e24]; done) | (simp only [List.map_toArray, List.map_cons, List.map_nil, Act.eval, Array.getD_eq_getD_getElem?, Option.getD_some, e24]; rfl)) ?_
    with_reducible refine (examboardref15_ints.calls k _ _ l0_3 t313 _ ?side1 ?side2 A6.out).mono ?_
    (case side1 => repeat (first | exact (Kd.C_below HR0_3.out HB.out) | (with_reducible refine Kd.C_alloc ?_ _) | (with_reducible refine Kd.C_drewN ?_ _) | (with_reducible refine Kd.C_drew ?_)))
    (case side2 => exact HC0_3.out)
    rintro e w19 ⟨v314, rfl, ho0, hb⟩
    refine ⟨_, rfl, ?_⟩
    have SEPc := own_apart (Kd.R_lt HO312.out) (Kd.R_base ho0)
    have n0_ := Aside0.mk (Kd.R_elder' (by (with_reducible repeat (first | apply Kd.R_alloc | apply Kd.R_drewN | apply Kd.R_drew)); exact HO312.out) (Kd.R_base ho0) hb)
    have n1_ := Aside0.mk (Kd.R_lower (Kd.R_new' ho0 (Kd.R_lt (by (with_reducible repeat (first | apply Kd.R_alloc | apply Kd.R_drewN | apply Kd.R_drew)); exact HO312.out))) (below_size (by repeat (first | (with_reducible first | exact HB.out | apply below_alloc | apply pw_below_drewN | apply below_drew1 | refine below_set ?_ GE306.out | refine below_set ?_ GE307.out | refine below_set ?_ GE308.out) | exact HB.out))))
    have n2_ := Aside0.mk (blk_below (g := gb306) (o := .cells #[.int .i64 a0_0, .int .i64 a0_1, .slice A0_2 l0_2.length c0_2, .slice A0_3 l0_3.length c0_3, .slice A0_4 l0_4.length c0_4] 25 (0, 0)) (by (with_reducible repeat (first | refine blk_drewN ?_ _ | refine blk_drew ?_ | refine blk_alloc ?_ _)); exact BK306.out) hb)
    have n3_ := Aside0.mk (blk_below (g := gb307) (o := .cells #[.int .i64 a1_0, .int .i64 a1_1, .int .i64 a1_2, .int .i64 a1_3] 34 (0, 0)) (by (with_reducible repeat (first | refine blk_drewN ?_ _ | refine blk_drew ?_ | refine blk_alloc ?_ _)); exact BK307.out) hb)
    have n4_ := Aside0.mk (blk_below (g := gb308) (o := .cells #[.int .i64 0, .int .i64 0, .slice none 0 0, .slice none 0 0, .slice none 0 0] 25 (0, 0)) (by (with_reducible repeat (first | refine blk_drewN ?_ _ | refine blk_drew ?_ | refine blk_alloc ?_ _)); exact BK308.out) hb)
    have n5_ := Aside0.mk (below_step (by repeat (first | (with_reducible first | exact HB.out | apply below_alloc | apply pw_below_drewN | apply below_drew1 | refine below_set ?_ GE306.out | refine below_set ?_ GE307.out | refine below_set ?_ GE308.out) | exact HB.out)) hb)
    have z_BK316 := fun (h0_ : b 11 = true) (h1_ : b 12 = false) => (show w19.heap[gb316]? = some (.cells #[.int .i64 0, .int .i64 0, .slice none 0 0, .slice none 0 0, .slice none 0 0] 25 (0, 0)) from by first | exact (blk_below (g := gb316) (o := .cells #[.int .i64 0, .int .i64 0, .slice none 0 0, .slice none 0 0, .slice none 0 0] 25 (0, 0)) (by (with_reducible repeat (first | refine blk_drewN ?_ _ | refine blk_drew ?_ | refine blk_alloc ?_ _)); exact (Q_BK316 h0_ h1_)) hb))
    clear HO312
    clear BK306
    clear BK307
    clear BK308
    clear HB
    have HO312 := n0_
    have HO315 := n1_
    have BK306 := n2_
    have BK307 := n3_
    have BK308 := n4_
    have HB := n5_
    clear n0_ n1_ n2_ n3_ n4_ n5_
    (try clear hb)
    (try clear hb2)
    (try clear hk)
    (try clear hi)
    (try clear ho0)
    obtain ⟨Ao20, co20, eo20⟩ := Kd.R_slice HO315.out
    (first | subst eo20 | (injection eo20 with f1_ f2_ f3_; have f4_ := f1_.symm; have f5_ := f3_.symm; clear f1_ f2_ f3_; subst f4_; subst f5_))
    obtain ⟨Ao21, co21, eo21⟩ := Kd.R_slice HO312.out
    (first | subst eo21 | (injection eo21 with f1_ f2_ f3_; have f4_ := f1_.symm; have f5_ := f3_.symm; clear f1_ f2_ f3_; subst f4_; subst f5_))
    refine hK.out _ _ ⟨.slice Ao21 t310.length co21, .slice Ao20 t313.length co20, gb316, m10_, m11_, (by rw [ha.out]; exact putSel_upk 5 hb_ rfl rfl rfl), (by (with_reducible repeat (first | refine blk_drewN ?_ _ | refine blk_drew ?_ | refine blk_alloc ?_ _)); exact BK306.out), (by (with_reducible repeat (first | refine blk_drewN ?_ _ | refine blk_drew ?_ | refine blk_alloc ?_ _)); exact BK307.out), (by (with_reducible repeat (first | refine blk_drewN ?_ _ | refine blk_drew ?_ | refine blk_alloc ?_ _)); exact BK308.out), (by repeat (first | (with_reducible first | exact HB.out | apply below_alloc | apply pw_below_drewN | apply below_drew1 | refine below_set ?_ GE306.out | refine below_set ?_ GE307.out | refine below_set ?_ GE308.out) | exact HB.out)), fun _ => (by (with_reducible repeat (first | apply Kd.R_alloc | apply Kd.R_drewN | apply Kd.R_drew)); exact Kd.R_mono HO312.out (fun _ _ => trivial)), fun _ => (by (with_reducible repeat (first | apply Kd.R_alloc | apply Kd.R_drewN | apply Kd.R_drew)); exact Kd.R_mono HO315.out (fun _ _ => trivial)), z_BK316, Q_GW316, Q_GE316, Q_NB306_316, Q_NB316_306, Q_NB307_316, Q_NB316_307, Q_NB308_316, Q_NB316_308, fun h0_ => absurd ((hoff 12 (by kernel_rfl)).symm.trans h0_) (by decide), fun h0_ => absurd ((hoff 10 (by kernel_rfl)).symm.trans h0_) (by decide), Q_X11_, fun _ _ => SEPc⟩
   refine steps_cons ?_ ?_
   ·
    rintro b a w' ⟨v311, v314, gb316, m10_, m11_, ha, Q_BK306, Q_BK307, Q_BK308, Q_HB, Q_HO312, Q_HO315, Q_BK316, Q_GW316, Q_GE316, Q_NB306_316, Q_NB316_306, Q_NB307_316, Q_NB316_307, Q_NB308_316, Q_NB316_308, Q_BK316_e12, Q_X10_, Q_X11_, Q_SEP⟩ hb_ hon hoff
    refine ⟨_, rfl, fun K hK => ?_⟩
    have e17 : a.tmps[17]? = some (.int .i64 a0_0) := by rw [ha]; exact putSel_on (e := (1, 17, .int .i64 a0_0)) 0 rfl rfl (hon 1 (by kernel_rfl)) rfl
    have e19 : a.tmps[19]? = some (.int .i64 a0_1) := by rw [ha]; exact putSel_on (e := (3, 19, .int .i64 a0_1)) 1 rfl rfl (hon 3 (by kernel_rfl)) rfl
    have e22 : a.tmps[22]? = some (v311) := by rw [ha]; exact putSel_on (e := (6, 22, v311)) 3 rfl rfl (hon 6 (by kernel_rfl)) rfl
    have e25 : a.tmps[25]? = some (v314) := by rw [ha]; exact putSel_on (e := (9, 25, v314)) 5 rfl rfl (hon 9 (by kernel_rfl)) rfl
    replace ha := Aside0.mk ha
    have BK306 := Aside0.mk Q_BK306
    have BK307 := Aside0.mk Q_BK307
    have BK308 := Aside0.mk Q_BK308
    have HB := Aside0.mk Q_HB
    have HO312 := Aside0.mk (Q_HO312 (hon 6 (by kernel_rfl)))
    have HO315 := Aside0.mk (Q_HO315 (hon 9 (by kernel_rfl)))
    obtain ⟨Ao10_0, co10_0, eo_⟩ := Kd.R_slice HO312.out
    subst eo_
    obtain ⟨Ao10_1, co10_1, eo_⟩ := Kd.R_slice HO315.out
    subst eo_
    refine value_ (w1 := w') (v := .agg #[.int .i64 a0_0, .int .i64 a0_1, .slice Ao10_0 t310.length co10_0, .slice Ao10_1 t313.length co10_1, .slice none 0 0]) (by rfl) rfl ?_ ?_
    ·
     go_simp
     (try simp only [i64_w])
     try rfl
    refine hK.out _ _ ⟨.slice Ao10_0 t310.length co10_0, .slice Ao10_1 t313.length co10_1, gb316, (.agg #[.int .i64 a0_0, .int .i64 a0_1, .slice Ao10_0 t310.length co10_0, .slice Ao10_1 t313.length co10_1, .slice none 0 0]), m11_, (by rw [ha.out]; exact putSel_upk 6 hb_ rfl rfl rfl), Q_BK306, Q_BK307, Q_BK308, Q_HB, Q_HO312, Q_HO315, Q_BK316, Q_GW316, Q_GE316, Q_NB306_316, Q_NB316_306, Q_NB307_316, Q_NB316_307, Q_NB308_316, Q_NB316_308, fun h0_ => absurd ((hoff 12 (by kernel_rfl)).symm.trans h0_) (by decide), fun _ => rfl, Q_X11_, Q_SEP⟩
   refine steps_cons ?_ ?_
   ·
    rintro b a w' ⟨v311, v314, gb316, m10_, m11_, ha, Q_BK306, Q_BK307, Q_BK308, Q_HB, Q_HO312, Q_HO315, Q_BK316, Q_GW316, Q_GE316, Q_NB306_316, Q_NB316_306, Q_NB307_316, Q_NB316_307, Q_NB308_316, Q_NB316_308, Q_BK316_e12, Q_X10_, Q_X11_, Q_SEP⟩ hb_ hon hoff
    refine ⟨_, rfl, fun K hK => ?_⟩
    replace ha := Aside0.mk ha
    have BK306 := Aside0.mk Q_BK306
    have BK307 := Aside0.mk Q_BK307
    have BK308 := Aside0.mk Q_BK308
    have HB := Aside0.mk Q_HB
    refine box_step ?hg (N := 7) ?hd (cs := #[.int .i64 0, .int .i64 0, .slice none 0 0, .slice none 0 0, .slice none 0 0]) (t := 25) ?hr ?_; (case hd => rfl); (case hg => rfl); (case hr => first | (go_simp; done) | (go_simp; rfl))
    intro gb316 hg w17 hbox hb
    have n0_ := Aside0.mk (blk_below (g := gb306) (o := .cells #[.int .i64 a0_0, .int .i64 a0_1, .slice A0_2 l0_2.length c0_2, .slice A0_3 l0_3.length c0_3, .slice A0_4 l0_4.length c0_4] 25 (0, 0)) (by (with_reducible repeat (first | refine blk_drewN ?_ _ | refine blk_drew ?_ | refine blk_alloc ?_ _)); exact BK306.out) hb)
    have n1_ := Aside0.mk (blk_below (g := gb307) (o := .cells #[.int .i64 a1_0, .int .i64 a1_1, .int .i64 a1_2, .int .i64 a1_3] 34 (0, 0)) (by (with_reducible repeat (first | refine blk_drewN ?_ _ | refine blk_drew ?_ | refine blk_alloc ?_ _)); exact BK307.out) hb)
    have n2_ := Aside0.mk (blk_below (g := gb308) (o := .cells #[.int .i64 0, .int .i64 0, .slice none 0 0, .slice none 0 0, .slice none 0 0] 25 (0, 0)) (by (with_reducible repeat (first | refine blk_drewN ?_ _ | refine blk_drew ?_ | refine blk_alloc ?_ _)); exact BK308.out) hb)
    have n3_ := Aside0.mk (below_step (by repeat (first | (with_reducible first | exact HB.out | apply below_alloc | apply pw_below_drewN | apply below_drew1 | refine below_set ?_ GE306.out | refine below_set ?_ GE307.out | refine below_set ?_ GE308.out) | exact HB.out)) hb)
    have n4_ := Aside0.mk (hbox)
    have n5_ := Aside0.mk ((by rw [hg]; exact (below_size (by repeat (first | (with_reducible first | exact HB.out | apply below_alloc | apply pw_below_drewN | apply below_drew1 | refine below_set ?_ GE306.out | refine below_set ?_ GE307.out | refine below_set ?_ GE308.out) | exact HB.out))) : w.heap.size ≤ gb316))
    have n6_ := Aside0.mk ((by rw [hg]; exact (below_size (by repeat (first | (with_reducible first | exact HB.out | apply below_alloc | apply pw_below_drewN | apply below_drew1 | refine below_set ?_ GE306.out | refine below_set ?_ GE307.out | refine below_set ?_ GE308.out) | exact HB.out))) : w.heap.size ≤ gb316))
    have n7_ := Aside0.mk ((by rw [hg]; exact Nat.ne_of_lt (blk_lt (g := gb306) (o := .cells #[.int .i64 a0_0, .int .i64 a0_1, .slice A0_2 l0_2.length c0_2, .slice A0_3 l0_3.length c0_3, .slice A0_4 l0_4.length c0_4] 25 (0, 0)) (by (with_reducible repeat (first | refine blk_drewN ?_ _ | refine blk_drew ?_ | refine blk_alloc ?_ _)); exact BK306.out)) : gb306 ≠ gb316))
    have n8_ := Aside0.mk ((by rw [hg]; exact Nat.ne_of_gt (blk_lt (g := gb306) (o := .cells #[.int .i64 a0_0, .int .i64 a0_1, .slice A0_2 l0_2.length c0_2, .slice A0_3 l0_3.length c0_3, .slice A0_4 l0_4.length c0_4] 25 (0, 0)) (by (with_reducible repeat (first | refine blk_drewN ?_ _ | refine blk_drew ?_ | refine blk_alloc ?_ _)); exact BK306.out)) : gb316 ≠ gb306))
    have n9_ := Aside0.mk ((by rw [hg]; exact Nat.ne_of_lt (blk_lt (g := gb307) (o := .cells #[.int .i64 a1_0, .int .i64 a1_1, .int .i64 a1_2, .int .i64 a1_3] 34 (0, 0)) (by (with_reducible repeat (first | refine blk_drewN ?_ _ | refine blk_drew ?_ | refine blk_alloc ?_ _)); exact BK307.out)) : gb307 ≠ gb316))
    have n10_ := Aside0.mk ((by rw [hg]; exact Nat.ne_of_gt (blk_lt (g := gb307) (o := .cells #[.int .i64 a1_0, .int .i64 a1_1, .int .i64 a1_2, .int .i64 a1_3] 34 (0, 0)) (by (with_reducible repeat (first | refine blk_drewN ?_ _ | refine blk_drew ?_ | refine blk_alloc ?_ _)); exact BK307.out)) : gb316 ≠ gb307))
    have n11_ := Aside0.mk ((by rw [hg]; exact Nat.ne_of_lt (blk_lt (g := gb308) (o := .cells #[.int .i64 0, .int .i64 0, .slice none 0 0, .slice none 0 0, .slice none 0 0] 25 (0, 0)) (by (with_reducible repeat (first | refine blk_drewN ?_ _ | refine blk_drew ?_ | refine blk_alloc ?_ _)); exact BK308.out)) : gb308 ≠ gb316))
    have n12_ := Aside0.mk ((by rw [hg]; exact Nat.ne_of_gt (blk_lt (g := gb308) (o := .cells #[.int .i64 0, .int .i64 0, .slice none 0 0, .slice none 0 0, .slice none 0 0] 25 (0, 0)) (by (with_reducible repeat (first | refine blk_drewN ?_ _ | refine blk_drew ?_ | refine blk_alloc ?_ _)); exact BK308.out)) : gb316 ≠ gb308))
    have z_HO312 := fun (h0_ : b 6 = true) => (show Kd.R (Kd.int .i64) 3 w17 w.heap.size (fun _ => True) v311 t310 from by first | exact (Kd.R_below (by (with_reducible repeat (first | apply Kd.R_alloc | apply Kd.R_drewN | apply Kd.R_drew)); exact (Q_HO312 h0_)) hb) | exact Kd.R_mono (Kd.R_below (by (with_reducible repeat (first | apply Kd.R_alloc | apply Kd.R_drewN | apply Kd.R_drew)); exact (Q_HO312 h0_)) hb) (fun _ h_ => by first | trivial | exact h_ | exact h_.1))
    have z_HO315 := fun (h0_ : b 9 = true) => (show Kd.R (Kd.int .i64) 3 w17 w.heap.size (fun _ => True) v314 t313 from by first | exact (Kd.R_below (by (with_reducible repeat (first | apply Kd.R_alloc | apply Kd.R_drewN | apply Kd.R_drew)); exact (Q_HO315 h0_)) hb) | exact Kd.R_mono (Kd.R_below (by (with_reducible repeat (first | apply Kd.R_alloc | apply Kd.R_drewN | apply Kd.R_drew)); exact (Q_HO315 h0_)) hb) (fun _ h_ => by first | trivial | exact h_ | exact h_.1))
    clear BK306
    clear BK307
    clear BK308
    clear HB
    have BK306 := n0_
    have BK307 := n1_
    have BK308 := n2_
    have HB := n3_
    have BK316 := n4_
    have GW316 := n5_
    have GE316 := n6_
    have NB306_316 := n7_
    have NB316_306 := n8_
    have NB307_316 := n9_
    have NB316_307 := n10_
    have NB308_316 := n11_
    have NB316_308 := n12_
    clear n0_ n1_ n2_ n3_ n4_ n5_ n6_ n7_ n8_ n9_ n10_ n11_ n12_
    clear hb hbox hg
    refine hK.out _ _ ⟨v311, v314, gb316, m10_, (.pointer (some ⟨gb316, 0, none⟩)), (by rw [ha.out]; exact putSel_upk 7 hb_ rfl rfl rfl), (by (with_reducible repeat (first | refine blk_drewN ?_ _ | refine blk_drew ?_ | refine blk_alloc ?_ _)); exact BK306.out), (by (with_reducible repeat (first | refine blk_drewN ?_ _ | refine blk_drew ?_ | refine blk_alloc ?_ _)); exact BK307.out), (by (with_reducible repeat (first | refine blk_drewN ?_ _ | refine blk_drew ?_ | refine blk_alloc ?_ _)); exact BK308.out), (by repeat (first | (with_reducible first | exact HB.out | apply below_alloc | apply pw_below_drewN | apply below_drew1 | refine below_set ?_ GE306.out | refine below_set ?_ GE307.out | refine below_set ?_ GE308.out | refine below_set ?_ GE316.out) | exact HB.out)), z_HO312, z_HO315, fun _ _ => (by (with_reducible repeat (first | refine blk_drewN ?_ _ | refine blk_drew ?_ | refine blk_alloc ?_ _)); exact BK316.out), fun _ => GW316.out, fun _ => GE316.out, fun _ => NB306_316.out, fun _ => NB316_306.out, fun _ => NB307_316.out, fun _ => NB316_307.out, fun _ => NB308_316.out, fun _ => NB316_308.out, fun h0_ => absurd ((hoff 12 (by kernel_rfl)).symm.trans h0_) (by decide), Q_X10_, fun _ => rfl, Q_SEP⟩
   refine steps_cons ?_ ?_
   ·
    rintro b a w' ⟨v311, v314, gb316, m10_, m11_, ha, Q_BK306, Q_BK307, Q_BK308, Q_HB, Q_HO312, Q_HO315, Q_BK316, Q_GW316, Q_GE316, Q_NB306_316, Q_NB316_306, Q_NB307_316, Q_NB316_307, Q_NB308_316, Q_NB316_308, Q_BK316_e12, Q_X10_, Q_X11_, Q_SEP⟩ hb_ hon hoff
    refine ⟨_, rfl, fun K hK => ?_⟩
    have e7 : a.tmps[7]? = some (m11_) := by rw [ha]; exact putSel_on (e := (11, 7, m11_)) 7 rfl rfl (hon 11 (by kernel_rfl)) rfl
    rw [Q_X11_ (hon 11 (by kernel_rfl))] at e7
    have e26 : a.tmps[26]? = some (m10_) := by rw [ha]; exact putSel_on (e := (10, 26, m10_)) 6 rfl rfl (hon 10 (by kernel_rfl)) rfl
    rw [Q_X10_ (hon 10 (by kernel_rfl))] at e26
    replace ha := Aside0.mk ha
    have BK306 := Aside0.mk Q_BK306
    have BK307 := Aside0.mk Q_BK307
    have BK308 := Aside0.mk Q_BK308
    have HB := Aside0.mk Q_HB
    have HO312 := Aside0.mk (Q_HO312 (hon 6 (by kernel_rfl)))
    have HO315 := Aside0.mk (Q_HO315 (hon 9 (by kernel_rfl)))
    have BK316 := Aside0.mk (Q_BK316 (hon 11 (by kernel_rfl)) hb_)
    have GW316 := Aside0.mk (Q_GW316 (hon 11 (by kernel_rfl)))
    have GE316 := Aside0.mk (Q_GE316 (hon 11 (by kernel_rfl)))
    have NB306_316 := Aside0.mk (Q_NB306_316 (hon 11 (by kernel_rfl)))
    have NB316_306 := Aside0.mk (Q_NB316_306 (hon 11 (by kernel_rfl)))
    have NB307_316 := Aside0.mk (Q_NB307_316 (hon 11 (by kernel_rfl)))
    have NB316_307 := Aside0.mk (Q_NB316_307 (hon 11 (by kernel_rfl)))
    have NB308_316 := Aside0.mk (Q_NB308_316 (hon 11 (by kernel_rfl)))
    have NB316_308 := Aside0.mk (Q_NB316_308 (hon 11 (by kernel_rfl)))
    obtain ⟨Ao23, co23, eo23⟩ := Kd.R_slice HO315.out
    (first | subst eo23 | (injection eo23 with f1_ f2_ f3_; have f4_ := f1_.symm; have f5_ := f3_.symm; clear f1_ f2_ f3_; subst f4_; subst f5_))
    obtain ⟨Ao24, co24, eo24⟩ := Kd.R_slice HO312.out
    (first | subst eo24 | (injection eo24 with f1_ f2_ f3_; have f4_ := f1_.symm; have f5_ := f3_.symm; clear f1_ f2_ f3_; subst f4_; subst f5_))
    have hs25 : w'.cell? ⟨gb316, 0, none⟩ = some (.int .i64 0) := (blk_cell BK316.out 0).trans rfl
    have hfs25 := blk_frozen BK316.out 0
    have hns25_0 := NB306_316.out
    have hns25_1 := NB307_316.out
    have hns25_2 := NB308_316.out
    have hms25_0 := NB316_306.out
    have hms25_1 := NB316_307.out
    have hms25_2 := NB316_308.out
    have hs26 : w'.cell? ⟨gb316, 1, none⟩ = some (.int .i64 0) := (blk_cell BK316.out 1).trans rfl
    have hfs26 := blk_frozen BK316.out 1
    have hns26_0 := NB306_316.out
    have hns26_1 := NB307_316.out
    have hns26_2 := NB308_316.out
    have hms26_0 := NB316_306.out
    have hms26_1 := NB316_307.out
    have hms26_2 := NB316_308.out
    have hs27 : w'.cell? ⟨gb316, 2, none⟩ = some (.slice none 0 0) := (blk_cell BK316.out 2).trans rfl
    have hfs27 := blk_frozen BK316.out 2
    have hns27_0 := NB306_316.out
    have hns27_1 := NB307_316.out
    have hns27_2 := NB308_316.out
    have hms27_0 := NB316_306.out
    have hms27_1 := NB316_307.out
    have hms27_2 := NB316_308.out
    have hs28 : w'.cell? ⟨gb316, 3, none⟩ = some (.slice none 0 0) := (blk_cell BK316.out 3).trans rfl
    have hfs28 := blk_frozen BK316.out 3
    have hns28_0 := NB306_316.out
    have hns28_1 := NB307_316.out
    have hns28_2 := NB308_316.out
    have hms28_0 := NB316_306.out
    have hms28_1 := NB316_307.out
    have hms28_2 := NB316_308.out
    have hs29 : w'.cell? ⟨gb316, 4, none⟩ = some (.slice none 0 0) := (blk_cell BK316.out 4).trans rfl
    have hfs29 := blk_frozen BK316.out 4
    have hns29_0 := NB306_316.out
    have hns29_1 := NB307_316.out
    have hns29_2 := NB308_316.out
    have hms29_0 := NB316_306.out
    have hms29_1 := NB316_307.out
    have hms29_2 := NB316_308.out
    refine skip_ (w1 := ?_) (by rfl) rfl ?_ ?_
    rotate_left
    ·
     go_simp
     rfl
    refine hK.out _ _ ⟨.slice Ao24 t310.length co24, .slice Ao23 t313.length co23, gb316, m10_, m11_, (by rw [ha.out]; exact putSel_none (v := undef) rfl), (by (with_reducible repeat (first | refine blk_drewN ?_ _ | refine blk_drew ?_ | refine blk_alloc ?_ _)); refine blk_far ?_ NB306_316.out _; (with_reducible repeat (first | refine blk_drewN ?_ _ | refine blk_drew ?_ | refine blk_alloc ?_ _)); refine blk_far ?_ NB306_316.out _; (with_reducible repeat (first | refine blk_drewN ?_ _ | refine blk_drew ?_ | refine blk_alloc ?_ _)); refine blk_far ?_ NB306_316.out _; (with_reducible repeat (first | refine blk_drewN ?_ _ | refine blk_drew ?_ | refine blk_alloc ?_ _)); refine blk_far ?_ NB306_316.out _; (with_reducible repeat (first | refine blk_drewN ?_ _ | refine blk_drew ?_ | refine blk_alloc ?_ _)); refine blk_far ?_ NB306_316.out _; (with_reducible repeat (first | refine blk_drewN ?_ _ | refine blk_drew ?_ | refine blk_alloc ?_ _)); exact BK306.out), (by (with_reducible repeat (first | refine blk_drewN ?_ _ | refine blk_drew ?_ | refine blk_alloc ?_ _)); refine blk_far ?_ NB307_316.out _; (with_reducible repeat (first | refine blk_drewN ?_ _ | refine blk_drew ?_ | refine blk_alloc ?_ _)); refine blk_far ?_ NB307_316.out _; (with_reducible repeat (first | refine blk_drewN ?_ _ | refine blk_drew ?_ | refine blk_alloc ?_ _)); refine blk_far ?_ NB307_316.out _; (with_reducible repeat (first | refine blk_drewN ?_ _ | refine blk_drew ?_ | refine blk_alloc ?_ _)); refine blk_far ?_ NB307_316.out _; (with_reducible repeat (first | refine blk_drewN ?_ _ | refine blk_drew ?_ | refine blk_alloc ?_ _)); refine blk_far ?_ NB307_316.out _; (with_reducible repeat (first | refine blk_drewN ?_ _ | refine blk_drew ?_ | refine blk_alloc ?_ _)); exact BK307.out), (by (with_reducible repeat (first | refine blk_drewN ?_ _ | refine blk_drew ?_ | refine blk_alloc ?_ _)); refine blk_far ?_ NB308_316.out _; (with_reducible repeat (first | refine blk_drewN ?_ _ | refine blk_drew ?_ | refine blk_alloc ?_ _)); refine blk_far ?_ NB308_316.out _; (with_reducible repeat (first | refine blk_drewN ?_ _ | refine blk_drew ?_ | refine blk_alloc ?_ _)); refine blk_far ?_ NB308_316.out _; (with_reducible repeat (first | refine blk_drewN ?_ _ | refine blk_drew ?_ | refine blk_alloc ?_ _)); refine blk_far ?_ NB308_316.out _; (with_reducible repeat (first | refine blk_drewN ?_ _ | refine blk_drew ?_ | refine blk_alloc ?_ _)); refine blk_far ?_ NB308_316.out _; (with_reducible repeat (first | refine blk_drewN ?_ _ | refine blk_drew ?_ | refine blk_alloc ?_ _)); exact BK308.out), (by repeat (first | (with_reducible first | exact HB.out | apply below_alloc | apply pw_below_drewN | apply below_drew1 | refine below_set ?_ GE306.out | refine below_set ?_ GE307.out | refine below_set ?_ GE308.out | refine below_set ?_ GE316.out) | exact HB.out)), fun _ => (by (with_reducible repeat (first | apply Kd.R_alloc | apply Kd.R_drewN | apply Kd.R_drew)); exact Kd.R_mono (Kd.R_far (p := ⟨gb316, 4, none⟩) (Kd.R_far (p := ⟨gb316, 3, none⟩) (Kd.R_far (p := ⟨gb316, 2, none⟩) (Kd.R_far (p := ⟨gb316, 1, none⟩) (Kd.R_far (p := ⟨gb316, 0, none⟩) (Kd.R_types HO312.out BK316.out (by decide)) (fun _ hk => hk.2) (.int .i64 a0_0)) (fun _ hk => hk.2) (.int .i64 a0_1)) (fun _ hk => hk.2) (.slice Ao24 t310.length co24)) (fun _ hk => hk.2) (.slice Ao23 t313.length co23)) (fun _ hk => hk.2) (.slice none 0 0)) (fun _ hk => hk.1)), fun _ => (by (with_reducible repeat (first | apply Kd.R_alloc | apply Kd.R_drewN | apply Kd.R_drew)); exact Kd.R_mono (Kd.R_far (p := ⟨gb316, 4, none⟩) (Kd.R_far (p := ⟨gb316, 3, none⟩) (Kd.R_far (p := ⟨gb316, 2, none⟩) (Kd.R_far (p := ⟨gb316, 1, none⟩) (Kd.R_far (p := ⟨gb316, 0, none⟩) (Kd.R_types HO315.out BK316.out (by decide)) (fun _ hk => hk.2) (.int .i64 a0_0)) (fun _ hk => hk.2) (.int .i64 a0_1)) (fun _ hk => hk.2) (.slice Ao24 t310.length co24)) (fun _ hk => hk.2) (.slice Ao23 t313.length co23)) (fun _ hk => hk.2) (.slice none 0 0)) (fun _ hk => hk.1)), fun _ h1_ => absurd ((up_self b 12).symm.trans h1_) (by decide), fun _ => GW316.out, fun _ => GE316.out, fun _ => NB306_316.out, fun _ => NB316_306.out, fun _ => NB307_316.out, fun _ => NB316_307.out, fun _ => NB308_316.out, fun _ => NB316_308.out, fun _ => (by (with_reducible repeat (first | refine blk_drewN ?_ _ | refine blk_drew ?_ | refine blk_alloc ?_ _)); refine blk_put (cs := #[.int .i64 a0_0, .int .i64 a0_1, .slice Ao24 t310.length co24, .slice Ao23 t313.length co23, .slice none 0 0]) ?_ 4 _ rfl; (with_reducible repeat (first | refine blk_drewN ?_ _ | refine blk_drew ?_ | refine blk_alloc ?_ _)); refine blk_put (cs := #[.int .i64 a0_0, .int .i64 a0_1, .slice Ao24 t310.length co24, .slice none 0 0, .slice none 0 0]) ?_ 3 _ rfl; (with_reducible repeat (first | refine blk_drewN ?_ _ | refine blk_drew ?_ | refine blk_alloc ?_ _)); refine blk_put (cs := #[.int .i64 a0_0, .int .i64 a0_1, .slice none 0 0, .slice none 0 0, .slice none 0 0]) ?_ 2 _ rfl; (with_reducible repeat (first | refine blk_drewN ?_ _ | refine blk_drew ?_ | refine blk_alloc ?_ _)); refine blk_put (cs := #[.int .i64 a0_0, .int .i64 0, .slice none 0 0, .slice none 0 0, .slice none 0 0]) ?_ 1 _ rfl; (with_reducible repeat (first | refine blk_drewN ?_ _ | refine blk_drew ?_ | refine blk_alloc ?_ _)); refine blk_put (cs := #[.int .i64 0, .int .i64 0, .slice none 0 0, .slice none 0 0, .slice none 0 0]) ?_ 0 _ rfl; (with_reducible repeat (first | refine blk_drewN ?_ _ | refine blk_drew ?_ | refine blk_alloc ?_ _)); exact BK316.out), Q_X10_, Q_X11_, Q_SEP⟩
   exact steps_nil
  rintro b a w27 hall ⟨v311, v314, gb316, m10_, m11_, ha, Q_BK306, Q_BK307, Q_BK308, Q_HB, Q_HO312, Q_HO315, Q_BK316, Q_GW316, Q_GE316, Q_NB306_316, Q_NB316_306, Q_NB307_316, Q_NB316_307, Q_NB308_316, Q_NB316_308, Q_BK316_e12, Q_X10_, Q_X11_, Q_SEP⟩
  clear BK306 BK307 BK308 HB
  have hb1_ := hall 1 (by kernel_rfl)
  have hb3_ := hall 3 (by kernel_rfl)
  have hb5_ := hall 5 (by kernel_rfl)
  have hb6_ := hall 6 (by kernel_rfl)
  have hb8_ := hall 8 (by kernel_rfl)
  have hb9_ := hall 9 (by kernel_rfl)
  have hb10_ := hall 10 (by kernel_rfl)
  have hb11_ := hall 11 (by kernel_rfl)
  have hb12_ := hall 12 (by kernel_rfl)
  subst ha
  obtain rfl := Q_X10_ hb10_
  obtain rfl := Q_X11_ hb11_
  simp only [putSel, hb1_, hb3_, hb5_, hb6_, hb8_, hb9_, hb10_, hb11_, hb12_, if_true, Act.put, List.setIfInBounds_toArray, List.set_cons_zero, List.set_cons_succ]
  have BK306 := Aside0.mk Q_BK306
  clear Q_BK306
  have BK307 := Aside0.mk Q_BK307
  clear Q_BK307
  have BK308 := Aside0.mk Q_BK308
  clear Q_BK308
  have HB := Aside0.mk Q_HB
  clear Q_HB
  have HO312 := Aside0.mk (Kd.R_flat (ok' := fun k_ => some k_ ≠ v314.ownBlock) (fun h_ => h_) (Q_HO312 hb6_) (fun k hk _ => atom_of (Q_SEP hb6_ hb9_) hk))
  have HO315 := Aside0.mk (Kd.R_flat (ok' := fun k_ => some k_ ≠ v311.ownBlock) (fun h_ => h_) (Q_HO315 hb9_) (fun k hk _ => atom_of' (Q_SEP hb6_ hb9_) hk))
  clear Q_HO315
  clear Q_BK316
  have GW316 := Aside0.mk (Q_GW316 hb11_)
  clear Q_GW316
  have GE316 := Aside0.mk (Q_GE316 hb11_)
  clear Q_GE316
  have NB306_316 := Aside0.mk (Q_NB306_316 hb11_)
  clear Q_NB306_316
  have NB316_306 := Aside0.mk (Q_NB316_306 hb11_)
  clear Q_NB316_306
  have NB307_316 := Aside0.mk (Q_NB307_316 hb11_)
  clear Q_NB307_316
  have NB316_307 := Aside0.mk (Q_NB316_307 hb11_)
  clear Q_NB316_307
  have NB308_316 := Aside0.mk (Q_NB308_316 hb11_)
  clear Q_NB308_316
  have NB316_308 := Aside0.mk (Q_NB316_308 hb11_)
  clear Q_NB316_308
  have BK316 := Aside0.mk (Q_BK316_e12 hb12_)
  clear Q_BK316_e12
  clear hall hb1_ hb3_ hb5_ hb6_ hb8_ hb9_ hb10_ hb11_ hb12_
  obtain ⟨Ao28, co28, eo28⟩ := Kd.R_slice HO315.out
  (first | subst eo28 | (injection eo28 with f1_ f2_ f3_; have f4_ := f1_.symm; have f5_ := f3_.symm; clear f1_ f2_ f3_; subst f4_; subst f5_))
  obtain ⟨Ao29, co29, eo29⟩ := Kd.R_slice HO312.out
  (first | subst eo29 | (injection eo29 with f1_ f2_ f3_; have f4_ := f1_.symm; have f5_ := f3_.symm; clear f1_ f2_ f3_; subst f4_; subst f5_))
  try go_wp2
  go_loopg [8] k (fun kq v8 w' => ∃ (x8_1 : Int) (x317004_1 : List (S34)) (u317004 : Value), v8 = .int .i64 x8_1 ∧ Aside0 (examboardref15_Apply.l0 kq x8_1 a0_0 a0_1 l0_2 l0_3 l0_4 a1_0 a1_1 a1_2 a1_3 a0_0 a0_1 t310 t313 x317004_1 = some (r1, r2, r3, r4, r5, r6)) ∧ Aside0 (kq ≤ k) ∧ Aside0 (Kd.R (Kd.int .i64) 3 w' w.heap.size (fun k_ => some k_ ≠ ((.slice Ao28 t313.length co28) : Value).ownBlock) (.slice Ao29 t310.length co29) t310) ∧ Aside0 (Kd.R (Kd.int .i64) 3 w' w.heap.size (fun k_ => some k_ ≠ ((.slice Ao29 t310.length co29) : Value).ownBlock) (.slice Ao28 t313.length co28) t313) ∧ Aside0 (Kd.R k34 34 w' w.heap.size (fun k_ => k_ ≠ gb307) u317004 x317004_1) ∧ Aside0 (w'.heap[gb306]? = some (.cells #[.int .i64 a0_0, .int .i64 a0_1, (.slice A0_2 l0_2.length c0_2), (.slice A0_3 l0_3.length c0_3), (.slice A0_4 l0_4.length c0_4)] 25 (0, 0))) ∧ Aside0 (w'.heap[gb307]? = some (.cells #[.int .i64 a1_0, .int .i64 a1_1, .int .i64 a1_2, .int .i64 a1_3] 34 (0, 0))) ∧ Aside0 (w'.heap[gb308]? = some (.cells #[.int .i64 0, .int .i64 0, (.slice none 0 0), (.slice none 0 0), (.slice none 0 0)] 25 (0, 0))) ∧ Aside0 (w'.heap[gb316]? = some (.cells #[.int .i64 a0_0, .int .i64 a0_1, (.slice Ao29 t310.length co29), (.slice Ao28 t313.length co28), u317004] 25 (0, 0))) ∧ Aside0 (Below w.heap.size w w'))
  case atStart => exact ⟨(0), (([] : List (S34))), (.slice none 0 0), (by first | rfl | (simp; done) | (simp [*]; done)), H', ⟨Nat.le_refl _⟩, ⟨by (with_reducible repeat (first | apply Kd.R_alloc | apply Kd.R_drewN | apply Kd.R_drew)); exact HO312.out⟩, ⟨by (with_reducible repeat (first | apply Kd.R_alloc | apply Kd.R_drewN | apply Kd.R_drew)); exact HO315.out⟩, ⟨by first | exact Kd.R_nil _ _ _ _ _ | exact Kd.N_nil _ _ _ _ _ | exact Kd.V_nil _ _ _ _ _ | exact Kd.Q_nil _ _ _ _ _ | exact Kd.S_nil _ _ _ _ _⟩, ⟨by (with_reducible repeat (first | refine blk_drewN ?_ _ | refine blk_drew ?_ | refine blk_alloc ?_ _)); exact BK306.out⟩, ⟨by (with_reducible repeat (first | refine blk_drewN ?_ _ | refine blk_drew ?_ | refine blk_alloc ?_ _)); exact BK307.out⟩, ⟨by (with_reducible repeat (first | refine blk_drewN ?_ _ | refine blk_drew ?_ | refine blk_alloc ?_ _)); exact BK308.out⟩, ⟨by (with_reducible repeat (first | refine blk_drewN ?_ _ | refine blk_drew ?_ | refine blk_alloc ?_ _)); exact BK316.out⟩, ⟨by repeat (first | (with_reducible first | exact HB.out | apply below_alloc | apply pw_below_drewN | apply below_drew1 | refine below_set ?_ GE306.out | refine below_set ?_ GE307.out | refine below_set ?_ GE308.out | refine below_set ?_ GE316.out) | exact HB.out)⟩⟩
  case round =>
   clear H'
   (try clear c1); (try clear c2); (try clear p2); (try clear c3); (try clear c4); (try clear c4b0); (try clear c4b1); (try clear c10); (try clear c11); (try clear c13); (try clear c19); (try clear c24); (try clear hcz12_0); (try clear hcz12_1); (try clear hcz12_2); (try clear hcz12_3); (try clear hcz12_4); (try clear hcz14_0); (try clear hcz14_1); (try clear hcz14_2); (try clear hcz14_3); (try clear hfz12_0); (try clear hfz12_1); (try clear hfz12_2); (try clear hfz12_3); (try clear hfz12_4); (try clear hfz14_0); (try clear hfz14_1); (try clear hfz14_2); (try clear hfz14_3)
   obtain ⟨x8_1, x317004_1, u317004, rfl, HA, HK1, HO_317002, HO_317003, HO_317004, BK306, BK307, BK308, BK316, HB⟩ := hrel
   cases gk with
   | zero => exact absurd HA.out (by simp [examboardref15_Apply.l0])
   | succ k1 =>
    have H := HA.out
    clear HA
    simp only [examboardref15_Apply.l0] at H
    by_cases c30 : x8_1 < (l0_4.length : Int)
    ·
     rw [if_pos c30] at H
     have c30b0 : decide (x8_1 < (l0_4.length : Int)) = true := decide_eq_true c30
     clear c30
     by_cases c31 : 0 ≤ x8_1
     ·
      rw [if_pos c31] at H
      have c31b0 : decide (0 ≤ x8_1) = true := decide_eq_true c31
      clear c31
      by_cases c32 : x317004_1.length < 4398046511104
      ·
       rw [if_pos c32] at H
       have LMc32 := Aside0.mk c32
       clear c32
       obtain ⟨y318, hy318⟩ : ∃ y_ : List (S34), y_ = (x317004_1 ++ [(⟨(rd_T34 l0_4 x8_1).f0, (rd_T34 l0_4 x8_1).f1, (rd_T34 l0_4 x8_1).f2, (rd_T34 l0_4 x8_1).f3⟩ : S34)]) := ⟨_, rfl⟩
       replace H : (examboardref15_Apply.l0 k1 (wrap64 (x8_1 + 1)) a0_0 a0_1 l0_2 l0_3 l0_4 a1_0 a1_1 a1_2 a1_3 a0_0 a0_1 t310 t313 y318) = some (r1, r2, r3, r4, r5, r6) := by first | (rw [hy318]; with_reducible exact H) | (have H2_ := (Option.bind_some _ _).symm.trans H; rw [hy318]; with_reducible exact H2_) | (have H2_ := (Option.bind_some _ _).symm.trans H; with_reducible exact H2_) | with_reducible exact H | (rw [hy318]; exact H) | exact H
       have Ny318 := Aside0.mk hy318
       clear hy318
       have H' := Aside0.mk H
       clear H
       have hnb33 := NB306_307.out
       have hnc33 := NB307_306.out
       have hnb34 := NB306_308.out
       have hnc34 := NB308_306.out
       have hnb35 := NB306_316.out
       have hnc35 := NB316_306.out
       have hcz36_0 : wr.cell? ⟨gb306, 0, none⟩ = some (.int .i64 a0_0) := (blk_cell BK306.out 0).trans rfl
       have hcz36_1 : wr.cell? ⟨gb306, 1, none⟩ = some (.int .i64 a0_1) := (blk_cell BK306.out 1).trans rfl
       have hcz36_2 : wr.cell? ⟨gb306, 2, none⟩ = some (.slice A0_2 l0_2.length c0_2) := (blk_cell BK306.out 2).trans rfl
       have hcz36_3 : wr.cell? ⟨gb306, 3, none⟩ = some (.slice A0_3 l0_3.length c0_3) := (blk_cell BK306.out 3).trans rfl
       have hcz36_4 : wr.cell? ⟨gb306, 4, none⟩ = some (.slice A0_4 l0_4.length c0_4) := (blk_cell BK306.out 4).trans rfl
       have hfz36_0 := blk_frozen BK306.out 0
       have hfz36_1 := blk_frozen BK306.out 1
       have hfz36_2 := blk_frozen BK306.out 2
       have hfz36_3 := blk_frozen BK306.out 3
       have hfz36_4 := blk_frozen BK306.out 4
       try go_wp2
       have n0_ := Aside0.mk (Kd.R_drew HO_317002.out)
       have n1_ := Aside0.mk (Kd.R_drew HO_317003.out)
       have n2_ := Aside0.mk (Kd.R_drew HO_317004.out)
       have n3_ := Aside0.mk (blk_drew BK306.out)
       have n4_ := Aside0.mk (blk_drew BK307.out)
       have n5_ := Aside0.mk (blk_drew BK308.out)
       have n6_ := Aside0.mk (blk_drew BK316.out)
       have n7_ := Aside0.mk (below_drew1 HB.out)
       clear HO_317002
       clear HO_317003
       clear HO_317004
       clear BK306
       clear BK307
       clear BK308
       clear BK316
       clear HB
       have HO_317002 := n0_
       have HO_317003 := n1_
       have HO_317004 := n2_
       have BK306 := n3_
       have BK307 := n4_
       have BK308 := n5_
       have BK316 := n6_
       have HB := n7_
       clear n0_ n1_ n2_ n3_ n4_ n5_ n6_ n7_
       have p317 : 0 ≤ (x8_1 : Int) := of_decide_eq_true (by first | (with_reducible assumption) | assumption)
       have q317 : x8_1 < (l0_4.length : Int) := of_decide_eq_true (by first | (with_reducible assumption) | assumption)
       obtain ⟨ad317, e317, hx317_0, hx317_1, hx317_2, hx317_3⟩ := at_T34 HR0_4.out x8_1 p317 q317
       have hw317_3 := hx317_3
       have hw317_2 := hx317_2
       have hw317_1 := hx317_1
       have hw317_0 := hx317_0
       cases e317
       replace hx317_0 := (HB.out.cell (World.block_lt_of_cell? w _ hx317_0)).trans hx317_0
       replace hx317_1 := (HB.out.cell (World.block_lt_of_cell? w _ hx317_1)).trans hx317_1
       replace hx317_2 := (HB.out.cell (World.block_lt_of_cell? w _ hx317_2)).trans hx317_2
       replace hx317_3 := (HB.out.cell (World.block_lt_of_cell? w _ hx317_3)).trans hx317_3
       replace p317 := eq_true p317
       replace q317 := eq_true q317
       refine start_ (n := 11) (S := fun w' => w'.cell? ⟨gb316, 0, none⟩ = some (.int .i64 a0_0) ∧ w'.cell? ⟨gb316, 1, none⟩ = some (.int .i64 a0_1) ∧ w'.cell? ⟨gb316, 2, none⟩ = some (.slice Ao29 t310.length co29) ∧ w'.cell? ⟨gb316, 3, none⟩ = some (.slice Ao28 t313.length co28) ∧ w'.cell? ⟨gb316, 4, none⟩ = some (u317004) ∧ w'.cell? ⟨gb306, 0, none⟩ = some (.int .i64 a0_0) ∧ w'.cell? ⟨gb306, 1, none⟩ = some (.int .i64 a0_1) ∧ w'.cell? ⟨gb306, 2, none⟩ = some (.slice A0_2 l0_2.length c0_2) ∧ w'.cell? ⟨gb306, 3, none⟩ = some (.slice A0_3 l0_3.length c0_3) ∧ w'.cell? ⟨gb306, 4, none⟩ = some (.slice (some ad317) l0_4.length c0_4) ∧ w'.cell? (ad317.add ((x8_1).toNat * 4)) = some (.int .i64 ((rd_T34 l0_4 x8_1).f0)) ∧ w'.cell? ⟨(ad317.add ((x8_1).toNat * 4)).block, (ad317.add ((x8_1).toNat * 4)).off + 1, none⟩ = some (.int .i64 ((rd_T34 l0_4 x8_1).f1)) ∧ w'.cell? ⟨(ad317.add ((x8_1).toNat * 4)).block, (ad317.add ((x8_1).toNat * 4)).off + 2, none⟩ = some (.int .i64 ((rd_T34 l0_4 x8_1).f2)) ∧ w'.cell? ⟨(ad317.add ((x8_1).toNat * 4)).block, (ad317.add ((x8_1).toNat * 4)).off + 3, none⟩ = some (.int .i64 ((rd_T34 l0_4 x8_1).f3))) (ds := [10]) #[false, false, false, false, false, false, false, false, false, false, false] (by kernel_rfl) rfl rfl ⟨(blk_cell BK316.out 0).trans rfl, (blk_cell BK316.out 1).trans rfl, (blk_cell BK316.out 2).trans rfl, (blk_cell BK316.out 3).trans rfl, (blk_cell BK316.out 4).trans rfl, (blk_cell BK306.out 0).trans rfl, (blk_cell BK306.out 1).trans rfl, (blk_cell BK306.out 2).trans rfl, (blk_cell BK306.out 3).trans rfl, (blk_cell BK306.out 4).trans rfl, ((HB.out.cell (World.block_lt_of_cell? w _ hw317_0)).trans hw317_0), ((HB.out.cell (World.block_lt_of_cell? w _ hw317_1)).trans hw317_1), ((HB.out.cell (World.block_lt_of_cell? w _ hw317_2)).trans hw317_2), ((HB.out.cell (World.block_lt_of_cell? w _ hw317_3)).trans hw317_3)⟩ (fun hHeld => ?_); refine with_tabW examboardref15_Apply.tab8 examboardref15_Apply.bits8 (fun HT_ HW_ => ?_)
       generalize wr.drew = w37 at HO_317002 HO_317003 HO_317004 BK306 BK307 BK308 BK316 HB hx317_0 hx317_1 hx317_2 hx317_3 hHeld ⊢
       refine pure_ (i := 0) (N := some 34) (v := ?_) (a' := ?_) #[true, false, false, false, false, false, false, false, false, false, false] rfl rfl (any_of HT_.out (by kernel_rfl)) (fun _ _ _ h => h) (Or.inl ⟨by rfl, ?_⟩) ?_ ?_
       rotate_left
       ·
        intro w'
        go_simp
        with_reducible rfl
       rotate_left
       ·
        simp only [Act.put, List.setIfInBounds_toArray, List.set_cons_zero, List.set_cons_succ, i64_w, i32_w]
        rfl
       refine pure_ (i := 2) (N := some 36) (v := ?_) (a' := ?_) #[true, false, true, false, false, false, false, false, false, false, false] rfl rfl (any_of HT_.out (by kernel_rfl)) (fun _ _ _ h => h) (Or.inl ⟨by rfl, ?_⟩) ?_ ?_
       rotate_left
       ·
        intro w'
        go_simp
        with_reducible rfl
       rotate_left
       ·
        simp only [Act.put, List.setIfInBounds_toArray, List.set_cons_zero, List.set_cons_succ, i64_w, i32_w]
        rfl
       refine pure_ (i := 4) (N := some 38) (v := ?_) (a' := ?_) #[true, false, true, false, true, false, false, false, false, false, false] rfl rfl (any_of HT_.out (by kernel_rfl)) (fun _ _ _ h => h) (Or.inl ⟨by rfl, ?_⟩) ?_ ?_
       rotate_left
       ·
        intro w'
        go_simp
        with_reducible rfl
       rotate_left
       ·
        simp only [Act.put, List.setIfInBounds_toArray, List.set_cons_zero, List.set_cons_succ, i64_w, i32_w]
        rfl
       refine take_ (i := 1) (N := some 35) (v := ?_) (a' := ?_) #[true, true, true, false, true, false, false, false, false, false, false] rfl rfl (take_ofW HT_.out HW_.out (by kernel_rfl)) (fun _ _ _ h => h) (Or.inl ⟨by rfl, ?_⟩) hHeld ?_ ?_
       rotate_left
       ·
        rintro w' ⟨s0, s1, s2, s3, s4, s5, s6, s7, s8, s9, s10, s11, s12, s13⟩
        go_simp
        with_reducible rfl
       rotate_left
       ·
        simp only [Act.put, List.setIfInBounds_toArray, List.set_cons_zero, List.set_cons_succ, i64_w, i32_w]
        rfl
       refine take_ (i := 3) (N := some 37) (v := ?_) (a' := ?_) #[true, true, true, true, true, false, false, false, false, false, false] rfl rfl (take_ofW HT_.out HW_.out (by kernel_rfl)) (fun _ _ _ h => h) (Or.inl ⟨by rfl, ?_⟩) hHeld ?_ ?_
       rotate_left
       ·
        rintro w' ⟨s0, s1, s2, s3, s4, s5, s6, s7, s8, s9, s10, s11, s12, s13⟩
        go_simp
        with_reducible rfl
       rotate_left
       ·
        simp only [Act.put, List.setIfInBounds_toArray, List.set_cons_zero, List.set_cons_succ, i64_w, i32_w]
        rfl
       refine pure_ (i := 5) (N := some 39) (v := ?_) (a' := ?_) #[true, true, true, true, true, true, false, false, false, false, false] rfl rfl (any_of HT_.out (by kernel_rfl)) (fun _ _ _ h => h) (Or.inl ⟨by rfl, ?_⟩) ?_ ?_
       rotate_left
       ·
        intro w'
        go_simp
        with_reducible rfl
       rotate_left
       ·
        simp only [Act.put, List.setIfInBounds_toArray, List.set_cons_zero, List.set_cons_succ, i64_w, i32_w]
        rfl
       refine take_ (i := 6) (N := some 40) (v := ?_) (a' := ?_) #[true, true, true, true, true, true, true, false, false, false, false] rfl rfl (take_ofW HT_.out HW_.out (by kernel_rfl)) (fun _ _ _ h => h) (Or.inl ⟨by rfl, ?_⟩) hHeld ?_ ?_
       rotate_left
       ·
        rintro w' ⟨s0, s1, s2, s3, s4, s5, s6, s7, s8, s9, s10, s11, s12, s13⟩
        go_simp
        with_reducible rfl
       rotate_left
       ·
        simp only [Act.put, List.setIfInBounds_toArray, List.set_cons_zero, List.set_cons_succ, i64_w, i32_w]
        rfl
       refine one_ (i := 7) (N := some 41) #[true, true, true, true, true, true, true, true, false, false, false] rfl rfl (one_of HT_.out (by kernel_rfl)) (by decide) (fun K hK => ?_)
       refine value_ (w1 := ?_) (v := ?_) (by rfl) rfl ?_ ?_
       rotate_left 2
       ·
        go_simp
        constructor
        ·
         rfl
        ·
         rfl
       refine hK.out _ _ ⟨(blk_cell (blk_alloc BK316.out _) 0).trans rfl, (blk_cell (blk_alloc BK316.out _) 1).trans rfl, (blk_cell (blk_alloc BK316.out _) 2).trans rfl, (blk_cell (blk_alloc BK316.out _) 3).trans rfl, (blk_cell (blk_alloc BK316.out _) 4).trans rfl, (blk_cell (blk_alloc BK306.out _) 0).trans rfl, (blk_cell (blk_alloc BK306.out _) 1).trans rfl, (blk_cell (blk_alloc BK306.out _) 2).trans rfl, (blk_cell (blk_alloc BK306.out _) 3).trans rfl, (blk_cell (blk_alloc BK306.out _) 4).trans rfl, (World.cell?_alloc_lt _ _ _ (World.block_lt_of_cell? _ _ (((HB.out.cell (World.block_lt_of_cell? w _ hw317_0)).trans hw317_0)))).trans (((HB.out.cell (World.block_lt_of_cell? w _ hw317_0)).trans hw317_0)), (World.cell?_alloc_lt _ _ _ (World.block_lt_of_cell? _ _ (((HB.out.cell (World.block_lt_of_cell? w _ hw317_1)).trans hw317_1)))).trans (((HB.out.cell (World.block_lt_of_cell? w _ hw317_1)).trans hw317_1)), (World.cell?_alloc_lt _ _ _ (World.block_lt_of_cell? _ _ (((HB.out.cell (World.block_lt_of_cell? w _ hw317_2)).trans hw317_2)))).trans (((HB.out.cell (World.block_lt_of_cell? w _ hw317_2)).trans hw317_2)), (World.cell?_alloc_lt _ _ _ (World.block_lt_of_cell? _ _ (((HB.out.cell (World.block_lt_of_cell? w _ hw317_3)).trans hw317_3)))).trans (((HB.out.cell (World.block_lt_of_cell? w _ hw317_3)).trans hw317_3))⟩ (fun hHeld => ?_)
       clear hK K
       refine norm_ (a' := ?_) ?_ ?_
       rotate_left
       ·
        show Act.put _ (some 41) _ = _
        simp only [Act.put, List.setIfInBounds_toArray, List.set_cons_zero, List.set_cons_succ, i64_w, i32_w]
        rfl
       refine one_ (i := 8) (N := some 42) #[true, true, true, true, true, true, true, true, true, false, false] rfl rfl (one_of HT_.out (by kernel_rfl)) (by decide) (fun K hK => ?_)
       refine Kd.R_append_step k34 (w0 := w) w.heap.size (by rfl) (.tmp 35) (.tmp 41) 23 34 (.agg #[(.int .i64 0), (.int .i64 0), (.int .i64 0), (.int .i64 0)]) 32 rfl Try.underlying23 info34 rfl (by decide) (by omega) u317004 x317004_1 (⟨(rd_T34 l0_4 x8_1).f0, (rd_T34 l0_4 x8_1).f1, (rd_T34 l0_4 x8_1).f2, (rd_T34 l0_4 x8_1).f3⟩ : S34) [.int .i64 ((rd_T34 l0_4 x8_1).f0), .int .i64 ((rd_T34 l0_4 x8_1).f1), .int .i64 ((rd_T34 l0_4 x8_1).f2), .int .i64 ((rd_T34 l0_4 x8_1).f3)] (fun k_ => k_ ≠ gb307) (fun _ => False) rfl rfl ?aP (fun _ hk => hk.elim) ?aF ?aO ?aB ?aS ?aL ?_
       (case aP => exact k34_mkM _ _ _ (⟨(rd_T34 l0_4 x8_1).f0, (rd_T34 l0_4 x8_1).f1, (rd_T34 l0_4 x8_1).f2, (rd_T34 l0_4 x8_1).f3⟩ : S34))
       (case aB => exact (by repeat (first | (with_reducible first | exact HB.out | apply below_alloc | apply pw_below_drewN | apply below_drew1 | refine below_set ?_ GE306.out | refine below_set ?_ GE307.out | refine below_set ?_ GE308.out | refine below_set ?_ GE316.out) | exact HB.out)))
       (case aF => exact (fun k_ hk => Kd.freshB (g := gb307) (o := .cells #[.int .i64 a1_0, .int .i64 a1_1, .int .i64 a1_2, .int .i64 a1_3] 34 (0, 0)) (by (with_reducible repeat (first | refine blk_drewN ?_ _ | refine blk_drew ?_ | refine blk_alloc ?_ _)); exact BK307.out) k_ hk))
       (case aO => exact (by (with_reducible repeat (first | apply Kd.R_alloc | apply Kd.R_drewN | apply Kd.R_drew)); exact HO_317004.out))
       (case aS => exact (below_size (by repeat (first | (with_reducible first | exact HB.out | apply below_alloc | apply pw_below_drewN | apply below_drew1 | refine below_set ?_ GE306.out | refine below_set ?_ GE307.out | refine below_set ?_ GE308.out | refine below_set ?_ GE316.out) | exact HB.out))))
       (case aL => have := LMc32.out; omega)
       intro v319 w38 ho hb hg hat
       rw [← Ny318.out] at ho
       have n0_ := Aside0.mk (Kd.R_over' (by (with_reducible repeat (first | apply Kd.R_alloc | apply Kd.R_drewN | apply Kd.R_drew)); exact HO_317002.out) (Kd.R_typed (by (with_reducible repeat (first | apply Kd.R_alloc | apply Kd.R_drewN | apply Kd.R_drew)); exact HO_317004.out)) (by decide) hg)
       have n1_ := Aside0.mk (Kd.R_over' (by (with_reducible repeat (first | apply Kd.R_alloc | apply Kd.R_drewN | apply Kd.R_drew)); exact HO_317003.out) (Kd.R_typed (by (with_reducible repeat (first | apply Kd.R_alloc | apply Kd.R_drewN | apply Kd.R_drew)); exact HO_317004.out)) (by decide) hg)
       have n2_ := Aside0.mk (blk_grown (g := gb306) (o := .cells #[.int .i64 a0_0, .int .i64 a0_1, .slice A0_2 l0_2.length c0_2, .slice A0_3 l0_3.length c0_3, .slice (some ad317) l0_4.length c0_4] 25 (0, 0)) (by (with_reducible repeat (first | refine blk_drewN ?_ _ | refine blk_drew ?_ | refine blk_alloc ?_ _)); exact BK306.out) hg (Kd.R_ne HO_317004.out BK306.out (by decide)))
       have n3_ := Aside0.mk (blk_grown (g := gb307) (o := .cells #[.int .i64 a1_0, .int .i64 a1_1, .int .i64 a1_2, .int .i64 a1_3] 34 (0, 0)) (by (with_reducible repeat (first | refine blk_drewN ?_ _ | refine blk_drew ?_ | refine blk_alloc ?_ _)); exact BK307.out) hg (Kd.R_away HO_317004.out (fun _ hk => hk)))
       have n4_ := Aside0.mk (blk_grown (g := gb308) (o := .cells #[.int .i64 0, .int .i64 0, .slice none 0 0, .slice none 0 0, .slice none 0 0] 25 (0, 0)) (by (with_reducible repeat (first | refine blk_drewN ?_ _ | refine blk_drew ?_ | refine blk_alloc ?_ _)); exact BK308.out) hg (Kd.R_ne HO_317004.out BK308.out (by decide)))
       have n5_ := Aside0.mk (blk_grown (g := gb316) (o := .cells #[.int .i64 a0_0, .int .i64 a0_1, .slice Ao29 t310.length co29, .slice Ao28 t313.length co28, u317004] 25 (0, 0)) (by (with_reducible repeat (first | refine blk_drewN ?_ _ | refine blk_drew ?_ | refine blk_alloc ?_ _)); exact BK316.out) hg (Kd.R_ne HO_317004.out BK316.out (by decide)))
       have n6_ := Aside0.mk (hb)
       have n7_ := Aside0.mk (ho)
       clear HO_317002
       clear HO_317003
       clear BK306
       clear BK307
       clear BK308
       clear BK316
       clear HB
       clear HO_317004
       have HO_317002 := n0_
       have HO_317003 := n1_
       have BK306 := n2_
       have BK307 := n3_
       have BK308 := n4_
       have BK316 := n5_
       have HB := n6_
       have HO320 := n7_
       clear n0_ n1_ n2_ n3_ n4_ n5_ n6_ n7_
       clear ho hb hg hat
       obtain ⟨Ao39, co39, eo39⟩ := Kd.R_slice HO320.out
       (first | subst eo39 | (injection eo39 with f1_ f2_ f3_; have f4_ := f1_.symm; have f5_ := f3_.symm; clear f1_ f2_ f3_; subst f4_; subst f5_))
       refine hK.out _ _ ⟨(blk_cell BK316.out 0).trans rfl, (blk_cell BK316.out 1).trans rfl, (blk_cell BK316.out 2).trans rfl, (blk_cell BK316.out 3).trans rfl, (blk_cell BK316.out 4).trans rfl, (blk_cell BK306.out 0).trans rfl, (blk_cell BK306.out 1).trans rfl, (blk_cell BK306.out 2).trans rfl, (blk_cell BK306.out 3).trans rfl, (blk_cell BK306.out 4).trans rfl, ((HB.out.cell (World.block_lt_of_cell? w _ hw317_0)).trans hw317_0), ((HB.out.cell (World.block_lt_of_cell? w _ hw317_1)).trans hw317_1), ((HB.out.cell (World.block_lt_of_cell? w _ hw317_2)).trans hw317_2), ((HB.out.cell (World.block_lt_of_cell? w _ hw317_3)).trans hw317_3)⟩ (fun hHeld => ?_)
       clear hK K
       refine norm_ (a' := ?_) ?_ ?_
       rotate_left
       ·
        show Act.put _ (some 42) _ = _
        simp only [Act.put, List.setIfInBounds_toArray, List.set_cons_zero, List.set_cons_succ, i64_w, i32_w]
        rfl
       refine pure_ (i := 9) (N := some 43) (v := ?_) (a' := ?_) #[true, true, true, true, true, true, true, true, true, true, false] rfl rfl (any_of HT_.out (by kernel_rfl)) (fun _ _ _ h => h) (Or.inl ⟨by rfl, ?_⟩) ?_ ?_
       rotate_left
       ·
        intro w'
        go_simp
        with_reducible rfl
       rotate_left
       ·
        simp only [Act.put, List.setIfInBounds_toArray, List.set_cons_zero, List.set_cons_succ, i64_w, i32_w]
        rfl
       refine last_ (i := 10) (N := none) #[true, true, true, true, true, true, true, true, true, true, true] rfl rfl (one_of HT_.out (by kernel_rfl)) (by decide) (fun K hK => ?_)
       have hs40 : w38.cell? ⟨gb316, 4, none⟩ = some (u317004) := (blk_cell BK316.out 4).trans rfl
       have hfs40 := blk_frozen BK316.out 4
       have hns40_0 := NB306_316.out
       have hns40_1 := NB307_316.out
       have hns40_2 := NB308_316.out
       have hms40_0 := NB316_306.out
       have hms40_1 := NB316_307.out
       have hms40_2 := NB316_308.out
       refine skip_ (w1 := ?_) (by rfl) rfl ?_ ?_
       rotate_left
       ·
        go_simp
        rfl
       refine hK.out _ _ ?_
       clear hK K
       refine done_ (done_of HT_.out (by kernel_rfl)) ?_
       try go_wp2
       go_roundg k1
       case measure => have := HK1.out; omega
       case rel => exact ⟨(wrap64 (x8_1 + 1)), (y318), (.slice Ao39 y318.length co39), (by first | rfl | (simp; done) | (simp [*]; done)), H', ⟨by have := HK1.out; omega⟩, ⟨by (with_reducible repeat (first | apply Kd.R_alloc | apply Kd.R_drewN | apply Kd.R_drew)); exact Kd.R_mono (Kd.R_far (p := ⟨gb316, 4, none⟩) (Kd.R_types HO_317002.out BK316.out (by decide)) (fun _ hk => hk.2) (.slice Ao39 y318.length co39)) (fun _ hk => hk.1)⟩, ⟨by (with_reducible repeat (first | apply Kd.R_alloc | apply Kd.R_drewN | apply Kd.R_drew)); exact Kd.R_mono (Kd.R_far (p := ⟨gb316, 4, none⟩) (Kd.R_types HO_317003.out BK316.out (by decide)) (fun _ hk => hk.2) (.slice Ao39 y318.length co39)) (fun _ hk => hk.1)⟩, ⟨by (with_reducible repeat (first | apply Kd.R_alloc | apply Kd.R_drewN | apply Kd.R_drew)); exact Kd.R_mono (Kd.R_far (p := ⟨gb316, 4, none⟩) (Kd.R_types HO320.out BK316.out (by decide)) (fun _ hk => hk.2) (.slice Ao39 y318.length co39)) (fun _ hk => hk.1)⟩, ⟨by (with_reducible repeat (first | refine blk_drewN ?_ _ | refine blk_drew ?_ | refine blk_alloc ?_ _)); refine blk_far ?_ NB306_316.out _; (with_reducible repeat (first | refine blk_drewN ?_ _ | refine blk_drew ?_ | refine blk_alloc ?_ _)); exact BK306.out⟩, ⟨by (with_reducible repeat (first | refine blk_drewN ?_ _ | refine blk_drew ?_ | refine blk_alloc ?_ _)); refine blk_far ?_ NB307_316.out _; (with_reducible repeat (first | refine blk_drewN ?_ _ | refine blk_drew ?_ | refine blk_alloc ?_ _)); exact BK307.out⟩, ⟨by (with_reducible repeat (first | refine blk_drewN ?_ _ | refine blk_drew ?_ | refine blk_alloc ?_ _)); refine blk_far ?_ NB308_316.out _; (with_reducible repeat (first | refine blk_drewN ?_ _ | refine blk_drew ?_ | refine blk_alloc ?_ _)); exact BK308.out⟩, ⟨by (with_reducible repeat (first | refine blk_drewN ?_ _ | refine blk_drew ?_ | refine blk_alloc ?_ _)); refine blk_put (cs := #[.int .i64 a0_0, .int .i64 a0_1, .slice Ao29 t310.length co29, .slice Ao28 t313.length co28, u317004]) ?_ 4 _ rfl; (with_reducible repeat (first | refine blk_drewN ?_ _ | refine blk_drew ?_ | refine blk_alloc ?_ _)); exact BK316.out⟩, ⟨by repeat (first | (with_reducible first | exact HB.out | apply below_alloc | apply pw_below_drewN | apply below_drew1 | refine below_set ?_ GE306.out | refine below_set ?_ GE307.out | refine below_set ?_ GE308.out | refine below_set ?_ GE316.out) | exact HB.out)⟩⟩
      ·
       rw [if_neg c32] at H
       exact absurd H (by simp)
     ·
      rw [if_neg c31] at H
      exact absurd H (by simp)
    ·
     rw [if_neg c30] at H
     have c30b0 : decide (x8_1 < (l0_4.length : Int)) = false := decide_eq_false c30
     clear c30
     by_cases c41 : x317004_1.length < 4398046511104
     ·
      rw [if_pos c41] at H
      have LMc41 := Aside0.mk c41
      clear c41
      obtain ⟨y321, hy321⟩ : ∃ y_ : List (S34), y_ = (x317004_1 ++ [(⟨a1_0, a1_1, a1_2, a1_3⟩ : S34)]) := ⟨_, rfl⟩
      replace H : (if a1_0 = 1 then (some (2, a0_1, t310, t313, y321, 0)) else (if a1_0 = 2 then (if t310.length < 17592186044416 then ((some (t310 ++ [a1_1] : List Int)).bind fun y324 => (if (y324.length : Int) ≥ 2 then (some (3, a0_1, y324, t313, y321, 0)) else (some (a0_0, a0_1, y324, t313, y321, 0)))) else (none)) else (if a1_0 = 3 then (examboardref15_Apply.j1 k1 a1_0 (a1_0 == 3) a1_0 a1_1 a1_2 a1_3 a0_0 a0_1 t310 t313 y321) else (examboardref15_Apply.j1 k1 a1_0 (a1_0 == 9) a1_0 a1_1 a1_2 a1_3 a0_0 a0_1 t310 t313 y321)))) = some (r1, r2, r3, r4, r5, r6) := by first | (rw [hy321]; with_reducible exact H) | (have H2_ := (Option.bind_some _ _).symm.trans H; rw [hy321]; with_reducible exact H2_) | (have H2_ := (Option.bind_some _ _).symm.trans H; with_reducible exact H2_) | with_reducible exact H | (rw [hy321]; exact H) | exact H
      have Ny321 := Aside0.mk hy321
      clear hy321
      by_cases c42 : a1_0 = 1
      ·
       rw [if_pos c42] at H
       have c42b0 : (a1_0 == 1) = true := beq_iff_eq.mpr c42
       have c42b1 : (a1_0 != 1) = false := bne_eq_false_iff_eq.mpr c42
       clear c42
       simp only [Option.some.injEq, Prod.mk.injEq] at H
       obtain ⟨rfl, rfl, rfl, rfl, rfl, rfl⟩ := H
       have hnb43 := NB306_307.out
       have hnc43 := NB307_306.out
       have hnb44 := NB306_308.out
       have hnc44 := NB308_306.out
       have hnb45 := NB306_316.out
       have hnc45 := NB316_306.out
       have hcz46_0 : wr.cell? ⟨gb306, 0, none⟩ = some (.int .i64 a0_0) := (blk_cell BK306.out 0).trans rfl
       have hcz46_1 : wr.cell? ⟨gb306, 1, none⟩ = some (.int .i64 a0_1) := (blk_cell BK306.out 1).trans rfl
       have hcz46_2 : wr.cell? ⟨gb306, 2, none⟩ = some (.slice A0_2 l0_2.length c0_2) := (blk_cell BK306.out 2).trans rfl
       have hcz46_3 : wr.cell? ⟨gb306, 3, none⟩ = some (.slice A0_3 l0_3.length c0_3) := (blk_cell BK306.out 3).trans rfl
       have hcz46_4 : wr.cell? ⟨gb306, 4, none⟩ = some (.slice A0_4 l0_4.length c0_4) := (blk_cell BK306.out 4).trans rfl
       have hfz46_0 := blk_frozen BK306.out 0
       have hfz46_1 := blk_frozen BK306.out 1
       have hfz46_2 := blk_frozen BK306.out 2
       have hfz46_3 := blk_frozen BK306.out 3
       have hfz46_4 := blk_frozen BK306.out 4
       have hnb47 := NB316_307.out
       have hnc47 := NB307_316.out
       have hnb48 := NB316_308.out
       have hnc48 := NB308_316.out
       have hcz49_0 : wr.cell? ⟨gb316, 0, none⟩ = some (.int .i64 a0_0) := (blk_cell BK316.out 0).trans rfl
       have hcz49_1 : wr.cell? ⟨gb316, 1, none⟩ = some (.int .i64 a0_1) := (blk_cell BK316.out 1).trans rfl
       have hcz49_2 : wr.cell? ⟨gb316, 2, none⟩ = some (.slice Ao29 t310.length co29) := (blk_cell BK316.out 2).trans rfl
       have hcz49_3 : wr.cell? ⟨gb316, 3, none⟩ = some (.slice Ao28 t313.length co28) := (blk_cell BK316.out 3).trans rfl
       have hcz49_4 : wr.cell? ⟨gb316, 4, none⟩ = some (u317004) := (blk_cell BK316.out 4).trans rfl
       have hfz49_0 := blk_frozen BK316.out 0
       have hfz49_1 := blk_frozen BK316.out 1
       have hfz49_2 := blk_frozen BK316.out 2
       have hfz49_3 := blk_frozen BK316.out 3
       have hfz49_4 := blk_frozen BK316.out 4
       have hnb50 := NB307_308.out
       have hnc50 := NB308_307.out
       have hcz51_0 : wr.cell? ⟨gb307, 0, none⟩ = some (.int .i64 a1_0) := (blk_cell BK307.out 0).trans rfl
       have hcz51_1 : wr.cell? ⟨gb307, 1, none⟩ = some (.int .i64 a1_1) := (blk_cell BK307.out 1).trans rfl
       have hcz51_2 : wr.cell? ⟨gb307, 2, none⟩ = some (.int .i64 a1_2) := (blk_cell BK307.out 2).trans rfl
       have hcz51_3 : wr.cell? ⟨gb307, 3, none⟩ = some (.int .i64 a1_3) := (blk_cell BK307.out 3).trans rfl
       have hfz51_0 := blk_frozen BK307.out 0
       have hfz51_1 := blk_frozen BK307.out 1
       have hfz51_2 := blk_frozen BK307.out 2
       have hfz51_3 := blk_frozen BK307.out 3
       go_wp2_with (first | ((with_reducible refine gate_builtin (b := .append) (xs := #[.tmp 45, .tmp 47]) rfl ?_); at_builtin; refine Kd.R_append k34 (w0 := w) w.heap.size rfl (.tmp 45) (.tmp 47) 23 34 (.agg #[(.int .i64 0), (.int .i64 0), (.int .i64 0), (.int .i64 0)]) 32 rfl Try.underlying23 info34 rfl (by decide) (by omega) u317004 x317004_1 (⟨a1_0, a1_1, a1_2, a1_3⟩ : S34) [.int .i64 a1_0, .int .i64 a1_1, .int .i64 a1_2, .int .i64 a1_3] (fun k_ => k_ ≠ gb307) (fun _ => False) rfl rfl ?aP (fun _ hk => hk.elim) ?aF ?aO ?aB ?aS ?aL ?_; (case aP => exact k34_mkM _ _ _ (⟨a1_0, a1_1, a1_2, a1_3⟩ : S34)); (case aB => exact (by repeat (first | (with_reducible first | exact HB.out | apply below_alloc | apply pw_below_drewN | apply below_drew1 | refine below_set ?_ GE306.out | refine below_set ?_ GE307.out | refine below_set ?_ GE308.out | refine below_set ?_ GE316.out) | exact HB.out))); (case aF => exact (fun k_ hk => Kd.freshB (g := gb307) (o := .cells #[.int .i64 a1_0, .int .i64 a1_1, .int .i64 a1_2, .int .i64 a1_3] 34 (0, 0)) (by (with_reducible repeat (first | refine blk_drewN ?_ _ | refine blk_drew ?_ | refine blk_alloc ?_ _)); exact BK307.out) k_ hk)); (case aO => exact (by (with_reducible repeat (first | apply Kd.R_alloc | apply Kd.R_drewN | apply Kd.R_drew)); exact HO_317004.out)); (case aS => exact (below_size (by repeat (first | (with_reducible first | exact HB.out | apply below_alloc | apply pw_below_drewN | apply below_drew1 | refine below_set ?_ GE306.out | refine below_set ?_ GE307.out | refine below_set ?_ GE308.out | refine below_set ?_ GE316.out) | exact HB.out)))); (case aL => have := LMc41.out; omega); intro v322 w52 ho hb hg hat; rw [← Ny321.out] at ho; have n0_ := Aside0.mk (Kd.R_over' (by (with_reducible repeat (first | apply Kd.R_alloc | apply Kd.R_drewN | apply Kd.R_drew)); exact HO_317002.out) (Kd.R_typed (by (with_reducible repeat (first | apply Kd.R_alloc | apply Kd.R_drewN | apply Kd.R_drew)); exact HO_317004.out)) (by decide) hg); have n1_ := Aside0.mk (Kd.R_over' (by (with_reducible repeat (first | apply Kd.R_alloc | apply Kd.R_drewN | apply Kd.R_drew)); exact HO_317003.out) (Kd.R_typed (by (with_reducible repeat (first | apply Kd.R_alloc | apply Kd.R_drewN | apply Kd.R_drew)); exact HO_317004.out)) (by decide) hg); have n2_ := Aside0.mk (blk_grown (g := gb306) (o := .cells #[.int .i64 a0_0, .int .i64 a0_1, .slice A0_2 l0_2.length c0_2, .slice A0_3 l0_3.length c0_3, .slice A0_4 l0_4.length c0_4] 25 (0, 0)) (by (with_reducible repeat (first | refine blk_drewN ?_ _ | refine blk_drew ?_ | refine blk_alloc ?_ _)); exact BK306.out) hg (Kd.R_ne HO_317004.out BK306.out (by decide))); have n3_ := Aside0.mk (blk_grown (g := gb307) (o := .cells #[.int .i64 a1_0, .int .i64 a1_1, .int .i64 a1_2, .int .i64 a1_3] 34 (0, 0)) (by (with_reducible repeat (first | refine blk_drewN ?_ _ | refine blk_drew ?_ | refine blk_alloc ?_ _)); exact BK307.out) hg (Kd.R_away HO_317004.out (fun _ hk => hk))); have n4_ := Aside0.mk (blk_grown (g := gb308) (o := .cells #[.int .i64 0, .int .i64 0, .slice none 0 0, .slice none 0 0, .slice none 0 0] 25 (0, 0)) (by (with_reducible repeat (first | refine blk_drewN ?_ _ | refine blk_drew ?_ | refine blk_alloc ?_ _)); exact BK308.out) hg (Kd.R_ne HO_317004.out BK308.out (by decide))); have n5_ := Aside0.mk (blk_grown (g := gb316) (o := .cells #[.int .i64 a0_0, .int .i64 a0_1, .slice Ao29 t310.length co29, .slice Ao28 t313.length co28, u317004] 25 (0, 0)) (by (with_reducible repeat (first | refine blk_drewN ?_ _ | refine blk_drew ?_ | refine blk_alloc ?_ _)); exact BK316.out) hg (Kd.R_ne HO_317004.out BK316.out (by decide))); have n6_ := Aside0.mk (hb); have n7_ := Aside0.mk (ho); clear HO_317002; clear HO_317003; clear BK306; clear BK307; clear BK308; clear BK316; clear HB; clear HO_317004; have HO_317002 := n0_; have HO_317003 := n1_; have BK306 := n2_; have BK307 := n3_; have BK308 := n4_; have BK316 := n5_; have HB := n6_; have HO323 := n7_; clear n0_ n1_ n2_ n3_ n4_ n5_ n6_ n7_; clear ho hb hg hat; obtain ⟨Ao53, co53, eo53⟩ := Kd.R_slice HO323.out; subst eo53; have hcz54_0 : w52.cell? ⟨gb316, 0, none⟩ = some (.int .i64 a0_0) := (blk_cell BK316.out 0).trans rfl; have hcz54_1 : w52.cell? ⟨gb316, 1, none⟩ = some (.int .i64 a0_1) := (blk_cell BK316.out 1).trans rfl; have hcz54_2 : w52.cell? ⟨gb316, 2, none⟩ = some (.slice Ao29 t310.length co29) := (blk_cell BK316.out 2).trans rfl; have hcz54_3 : w52.cell? ⟨gb316, 3, none⟩ = some (.slice Ao28 t313.length co28) := (blk_cell BK316.out 3).trans rfl; have hcz54_4 : w52.cell? ⟨gb316, 4, none⟩ = some (u317004) := (blk_cell BK316.out 4).trans rfl; have hfz54_0 := blk_frozen BK316.out 0; have hfz54_1 := blk_frozen BK316.out 1; have hfz54_2 := blk_frozen BK316.out 2; have hfz54_3 := blk_frozen BK316.out 3; have hfz54_4 := blk_frozen BK316.out 4; have hcz55_0 : w52.cell? ⟨gb307, 0, none⟩ = some (.int .i64 a1_0) := (blk_cell BK307.out 0).trans rfl; have hcz55_1 : w52.cell? ⟨gb307, 1, none⟩ = some (.int .i64 a1_1) := (blk_cell BK307.out 1).trans rfl; have hcz55_2 : w52.cell? ⟨gb307, 2, none⟩ = some (.int .i64 a1_2) := (blk_cell BK307.out 2).trans rfl; have hcz55_3 : w52.cell? ⟨gb307, 3, none⟩ = some (.int .i64 a1_3) := (blk_cell BK307.out 3).trans rfl; have hfz55_0 := blk_frozen BK307.out 0; have hfz55_1 := blk_frozen BK307.out 1; have hfz55_2 := blk_frozen BK307.out 2; have hfz55_3 := blk_frozen BK307.out 3; have hcz56_0 : w52.cell? ⟨gb308, 0, none⟩ = some (.int .i64 0) := (blk_cell BK308.out 0).trans rfl; have hcz56_1 : w52.cell? ⟨gb308, 1, none⟩ = some (.int .i64 0) := (blk_cell BK308.out 1).trans rfl; have hcz56_2 : w52.cell? ⟨gb308, 2, none⟩ = some (.slice none 0 0) := (blk_cell BK308.out 2).trans rfl; have hcz56_3 : w52.cell? ⟨gb308, 3, none⟩ = some (.slice none 0 0) := (blk_cell BK308.out 3).trans rfl; have hcz56_4 : w52.cell? ⟨gb308, 4, none⟩ = some (.slice none 0 0) := (blk_cell BK308.out 4).trans rfl; have hfz56_0 := blk_frozen BK308.out 0; have hfz56_1 := blk_frozen BK308.out 1; have hfz56_2 := blk_frozen BK308.out 2; have hfz56_3 := blk_frozen BK308.out 3; have hfz56_4 := blk_frozen BK308.out 4))
       refine bodyPost_ret (results_ct rfl _ _ gb308 25 #[.int .i64 2, .int .i64 a0_1, .slice Ao29 t310.length co29, .slice Ao28 t313.length co28, .slice Ao53 y321.length co53] (0, 0) _ rfl (by (with_reducible repeat (first | refine blk_drewN ?_ _ | refine blk_drew ?_ | refine blk_alloc ?_ _)); refine blk_put (cs := #[.int .i64 2, .int .i64 a0_1, .slice Ao29 t310.length co29, .slice Ao28 t313.length co28, .slice none 0 0]) ?_ 4 _ rfl; (with_reducible repeat (first | refine blk_drewN ?_ _ | refine blk_drew ?_ | refine blk_alloc ?_ _)); refine blk_put (cs := #[.int .i64 2, .int .i64 a0_1, .slice Ao29 t310.length co29, .slice none 0 0, .slice none 0 0]) ?_ 3 _ rfl; (with_reducible repeat (first | refine blk_drewN ?_ _ | refine blk_drew ?_ | refine blk_alloc ?_ _)); refine blk_put (cs := #[.int .i64 2, .int .i64 a0_1, .slice none 0 0, .slice none 0 0, .slice none 0 0]) ?_ 2 _ rfl; (with_reducible repeat (first | refine blk_drewN ?_ _ | refine blk_drew ?_ | refine blk_alloc ?_ _)); refine blk_put (cs := #[.int .i64 2, .int .i64 0, .slice none 0 0, .slice none 0 0, .slice none 0 0]) ?_ 1 _ rfl; (with_reducible repeat (first | refine blk_drewN ?_ _ | refine blk_drew ?_ | refine blk_alloc ?_ _)); refine blk_put (cs := #[.int .i64 0, .int .i64 0, .slice none 0 0, .slice none 0 0, .slice none 0 0]) ?_ 0 _ rfl; (with_reducible repeat (first | refine blk_drewN ?_ _ | refine blk_drew ?_ | refine blk_alloc ?_ _)); refine blk_far ?_ NB308_316.out _; (with_reducible repeat (first | refine blk_drewN ?_ _ | refine blk_drew ?_ | refine blk_alloc ?_ _)); refine blk_far ?_ NB308_316.out _; (with_reducible repeat (first | refine blk_drewN ?_ _ | refine blk_drew ?_ | refine blk_alloc ?_ _)); exact BK308.out) Try.underlying25 rfl (by kernel_rfl)) rfl ?_
       exact ⟨_, _, _, by first | rfl | (simp [errW_none, errW_some] <;> rfl) | (simp [*, errW_none, errW_some] <;> rfl), by (with_reducible repeat (first | apply Kd.R_alloc | apply Kd.R_drewN | apply Kd.R_drew)); exact Kd.R_mono (Kd.R_far (p := ⟨gb308, 4, none⟩) (Kd.R_far (p := ⟨gb308, 3, none⟩) (Kd.R_far (p := ⟨gb308, 2, none⟩) (Kd.R_far (p := ⟨gb308, 1, none⟩) (Kd.R_far (p := ⟨gb308, 0, none⟩) (Kd.R_far (p := ⟨gb316, 0, none⟩) (Kd.R_far (p := ⟨gb316, 4, none⟩) (Kd.R_types (Kd.R_types HO_317002.out BK316.out (by decide)) BK308.out (by decide)) (fun _ hk => hk.1.2) (.slice Ao53 y321.length co53)) (fun _ hk => hk.1.2) (.int .i64 2)) (fun _ hk => hk.2) (.int .i64 2)) (fun _ hk => hk.2) (.int .i64 a0_1)) (fun _ hk => hk.2) (.slice Ao29 t310.length co29)) (fun _ hk => hk.2) (.slice Ao28 t313.length co28)) (fun _ hk => hk.2) (.slice Ao53 y321.length co53)) (fun _ hk => hk.1.1), by (with_reducible repeat (first | apply Kd.R_alloc | apply Kd.R_drewN | apply Kd.R_drew)); exact Kd.R_mono (Kd.R_far (p := ⟨gb308, 4, none⟩) (Kd.R_far (p := ⟨gb308, 3, none⟩) (Kd.R_far (p := ⟨gb308, 2, none⟩) (Kd.R_far (p := ⟨gb308, 1, none⟩) (Kd.R_far (p := ⟨gb308, 0, none⟩) (Kd.R_far (p := ⟨gb316, 0, none⟩) (Kd.R_far (p := ⟨gb316, 4, none⟩) (Kd.R_types (Kd.R_types HO_317003.out BK316.out (by decide)) BK308.out (by decide)) (fun _ hk => hk.1.2) (.slice Ao53 y321.length co53)) (fun _ hk => hk.1.2) (.int .i64 2)) (fun _ hk => hk.2) (.int .i64 2)) (fun _ hk => hk.2) (.int .i64 a0_1)) (fun _ hk => hk.2) (.slice Ao29 t310.length co29)) (fun _ hk => hk.2) (.slice Ao28 t313.length co28)) (fun _ hk => hk.2) (.slice Ao53 y321.length co53)) (fun _ hk => hk.1.1), by (with_reducible repeat (first | apply Kd.R_alloc | apply Kd.R_drewN | apply Kd.R_drew)); exact Kd.R_mono (Kd.R_far (p := ⟨gb308, 4, none⟩) (Kd.R_far (p := ⟨gb308, 3, none⟩) (Kd.R_far (p := ⟨gb308, 2, none⟩) (Kd.R_far (p := ⟨gb308, 1, none⟩) (Kd.R_far (p := ⟨gb308, 0, none⟩) (Kd.R_far (p := ⟨gb316, 0, none⟩) (Kd.R_far (p := ⟨gb316, 4, none⟩) (Kd.R_types (Kd.R_types HO323.out BK316.out (by decide)) BK308.out (by decide)) (fun _ hk => hk.1.2) (.slice Ao53 y321.length co53)) (fun _ hk => hk.1.2) (.int .i64 2)) (fun _ hk => hk.2) (.int .i64 2)) (fun _ hk => hk.2) (.int .i64 a0_1)) (fun _ hk => hk.2) (.slice Ao29 t310.length co29)) (fun _ hk => hk.2) (.slice Ao28 t313.length co28)) (fun _ hk => hk.2) (.slice Ao53 y321.length co53)) (fun _ hk => trivial), by repeat (first | (with_reducible first | exact HB.out | apply below_alloc | apply pw_below_drewN | apply below_drew1 | refine below_set ?_ GE306.out | refine below_set ?_ GE307.out | refine below_set ?_ GE308.out | refine below_set ?_ GE316.out) | exact HB.out)⟩
      ·
       rw [if_neg c42] at H
       have c42b0 : (a1_0 == 1) = false := beq_eq_false_iff_ne.mpr c42
       have c42b1 : (a1_0 != 1) = true := bne_iff_ne.mpr c42
       by_cases c57 : a1_0 = 2
       ·
        rw [if_pos c57] at H
        have c57b0 : (a1_0 == 2) = true := beq_iff_eq.mpr c57
        have c57b1 : (a1_0 != 2) = false := bne_eq_false_iff_eq.mpr c57
        clear c57
        by_cases c58 : t310.length < 17592186044416
        ·
         rw [if_pos c58] at H
         have LMc58 := Aside0.mk c58
         clear c58
         obtain ⟨y324, hy324⟩ : ∃ y_ : List Int, y_ = (t310 ++ [a1_1]) := ⟨_, rfl⟩
         replace H : (if (y324.length : Int) ≥ 2 then (some (3, a0_1, y324, t313, y321, 0)) else (some (a0_0, a0_1, y324, t313, y321, 0))) = some (r1, r2, r3, r4, r5, r6) := by first | (rw [hy324]; with_reducible exact H) | (have H2_ := (Option.bind_some _ _).symm.trans H; rw [hy324]; with_reducible exact H2_) | (have H2_ := (Option.bind_some _ _).symm.trans H; with_reducible exact H2_) | with_reducible exact H | (rw [hy324]; exact H) | exact H
         have Ny324 := Aside0.mk hy324
         clear hy324
         by_cases c59 : (y324.length : Int) ≥ 2
         ·
          rw [if_pos c59] at H
          have c59b0 : decide (2 ≤ (y324.length : Int)) = true := decide_eq_true c59
          have c59b1 : decide (2 ≤ y324.length) = true := decide_eq_true (by omega)
          clear c59
          simp only [Option.some.injEq, Prod.mk.injEq] at H
          obtain ⟨rfl, rfl, rfl, rfl, rfl, rfl⟩ := H
          have hnb60 := NB306_307.out
          have hnc60 := NB307_306.out
          have hnb61 := NB306_308.out
          have hnc61 := NB308_306.out
          have hnb62 := NB306_316.out
          have hnc62 := NB316_306.out
          have hcz63_0 : wr.cell? ⟨gb306, 0, none⟩ = some (.int .i64 a0_0) := (blk_cell BK306.out 0).trans rfl
          have hcz63_1 : wr.cell? ⟨gb306, 1, none⟩ = some (.int .i64 a0_1) := (blk_cell BK306.out 1).trans rfl
          have hcz63_2 : wr.cell? ⟨gb306, 2, none⟩ = some (.slice A0_2 l0_2.length c0_2) := (blk_cell BK306.out 2).trans rfl
          have hcz63_3 : wr.cell? ⟨gb306, 3, none⟩ = some (.slice A0_3 l0_3.length c0_3) := (blk_cell BK306.out 3).trans rfl
          have hcz63_4 : wr.cell? ⟨gb306, 4, none⟩ = some (.slice A0_4 l0_4.length c0_4) := (blk_cell BK306.out 4).trans rfl
          have hfz63_0 := blk_frozen BK306.out 0
          have hfz63_1 := blk_frozen BK306.out 1
          have hfz63_2 := blk_frozen BK306.out 2
          have hfz63_3 := blk_frozen BK306.out 3
          have hfz63_4 := blk_frozen BK306.out 4
          have hnb64 := NB316_307.out
          have hnc64 := NB307_316.out
          have hnb65 := NB316_308.out
          have hnc65 := NB308_316.out
          have hcz66_0 : wr.cell? ⟨gb316, 0, none⟩ = some (.int .i64 a0_0) := (blk_cell BK316.out 0).trans rfl
          have hcz66_1 : wr.cell? ⟨gb316, 1, none⟩ = some (.int .i64 a0_1) := (blk_cell BK316.out 1).trans rfl
          have hcz66_2 : wr.cell? ⟨gb316, 2, none⟩ = some (.slice Ao29 t310.length co29) := (blk_cell BK316.out 2).trans rfl
          have hcz66_3 : wr.cell? ⟨gb316, 3, none⟩ = some (.slice Ao28 t313.length co28) := (blk_cell BK316.out 3).trans rfl
          have hcz66_4 : wr.cell? ⟨gb316, 4, none⟩ = some (u317004) := (blk_cell BK316.out 4).trans rfl
          have hfz66_0 := blk_frozen BK316.out 0
          have hfz66_1 := blk_frozen BK316.out 1
          have hfz66_2 := blk_frozen BK316.out 2
          have hfz66_3 := blk_frozen BK316.out 3
          have hfz66_4 := blk_frozen BK316.out 4
          have hnb67 := NB307_308.out
          have hnc67 := NB308_307.out
          have hcz68_0 : wr.cell? ⟨gb307, 0, none⟩ = some (.int .i64 a1_0) := (blk_cell BK307.out 0).trans rfl
          have hcz68_1 : wr.cell? ⟨gb307, 1, none⟩ = some (.int .i64 a1_1) := (blk_cell BK307.out 1).trans rfl
          have hcz68_2 : wr.cell? ⟨gb307, 2, none⟩ = some (.int .i64 a1_2) := (blk_cell BK307.out 2).trans rfl
          have hcz68_3 : wr.cell? ⟨gb307, 3, none⟩ = some (.int .i64 a1_3) := (blk_cell BK307.out 3).trans rfl
          have hfz68_0 := blk_frozen BK307.out 0
          have hfz68_1 := blk_frozen BK307.out 1
          have hfz68_2 := blk_frozen BK307.out 2
          have hfz68_3 := blk_frozen BK307.out 3
          go_wp2_with (first | ((with_reducible refine gate_builtin (b := .append) (xs := #[.tmp 45, .tmp 47]) rfl ?_); at_builtin; refine Kd.R_append k34 (w0 := w) w.heap.size rfl (.tmp 45) (.tmp 47) 23 34 (.agg #[(.int .i64 0), (.int .i64 0), (.int .i64 0), (.int .i64 0)]) 32 rfl Try.underlying23 info34 rfl (by decide) (by omega) u317004 x317004_1 (⟨a1_0, a1_1, a1_2, a1_3⟩ : S34) [.int .i64 a1_0, .int .i64 a1_1, .int .i64 a1_2, .int .i64 a1_3] (fun k_ => k_ ≠ gb307) (fun _ => False) rfl rfl ?aP (fun _ hk => hk.elim) ?aF ?aO ?aB ?aS ?aL ?_; (case aP => exact k34_mkM _ _ _ (⟨a1_0, a1_1, a1_2, a1_3⟩ : S34)); (case aB => exact (by repeat (first | (with_reducible first | exact HB.out | apply below_alloc | apply pw_below_drewN | apply below_drew1 | refine below_set ?_ GE306.out | refine below_set ?_ GE307.out | refine below_set ?_ GE308.out | refine below_set ?_ GE316.out) | exact HB.out))); (case aF => exact (fun k_ hk => Kd.freshB (g := gb307) (o := .cells #[.int .i64 a1_0, .int .i64 a1_1, .int .i64 a1_2, .int .i64 a1_3] 34 (0, 0)) (by (with_reducible repeat (first | refine blk_drewN ?_ _ | refine blk_drew ?_ | refine blk_alloc ?_ _)); exact BK307.out) k_ hk)); (case aO => exact (by (with_reducible repeat (first | apply Kd.R_alloc | apply Kd.R_drewN | apply Kd.R_drew)); exact HO_317004.out)); (case aS => exact (below_size (by repeat (first | (with_reducible first | exact HB.out | apply below_alloc | apply pw_below_drewN | apply below_drew1 | refine below_set ?_ GE306.out | refine below_set ?_ GE307.out | refine below_set ?_ GE308.out | refine below_set ?_ GE316.out) | exact HB.out)))); (case aL => have := LMc41.out; omega); intro v322 w69 ho hb hg hat; rw [← Ny321.out] at ho; have n0_ := Aside0.mk (Kd.R_over' (by (with_reducible repeat (first | apply Kd.R_alloc | apply Kd.R_drewN | apply Kd.R_drew)); exact HO_317002.out) (Kd.R_typed (by (with_reducible repeat (first | apply Kd.R_alloc | apply Kd.R_drewN | apply Kd.R_drew)); exact HO_317004.out)) (by decide) hg); have n1_ := Aside0.mk (Kd.R_over' (by (with_reducible repeat (first | apply Kd.R_alloc | apply Kd.R_drewN | apply Kd.R_drew)); exact HO_317003.out) (Kd.R_typed (by (with_reducible repeat (first | apply Kd.R_alloc | apply Kd.R_drewN | apply Kd.R_drew)); exact HO_317004.out)) (by decide) hg); have n2_ := Aside0.mk (blk_grown (g := gb306) (o := .cells #[.int .i64 a0_0, .int .i64 a0_1, .slice A0_2 l0_2.length c0_2, .slice A0_3 l0_3.length c0_3, .slice A0_4 l0_4.length c0_4] 25 (0, 0)) (by (with_reducible repeat (first | refine blk_drewN ?_ _ | refine blk_drew ?_ | refine blk_alloc ?_ _)); exact BK306.out) hg (Kd.R_ne HO_317004.out BK306.out (by decide))); have n3_ := Aside0.mk (blk_grown (g := gb307) (o := .cells #[.int .i64 a1_0, .int .i64 a1_1, .int .i64 a1_2, .int .i64 a1_3] 34 (0, 0)) (by (with_reducible repeat (first | refine blk_drewN ?_ _ | refine blk_drew ?_ | refine blk_alloc ?_ _)); exact BK307.out) hg (Kd.R_away HO_317004.out (fun _ hk => hk))); have n4_ := Aside0.mk (blk_grown (g := gb308) (o := .cells #[.int .i64 0, .int .i64 0, .slice none 0 0, .slice none 0 0, .slice none 0 0] 25 (0, 0)) (by (with_reducible repeat (first | refine blk_drewN ?_ _ | refine blk_drew ?_ | refine blk_alloc ?_ _)); exact BK308.out) hg (Kd.R_ne HO_317004.out BK308.out (by decide))); have n5_ := Aside0.mk (blk_grown (g := gb316) (o := .cells #[.int .i64 a0_0, .int .i64 a0_1, .slice Ao29 t310.length co29, .slice Ao28 t313.length co28, u317004] 25 (0, 0)) (by (with_reducible repeat (first | refine blk_drewN ?_ _ | refine blk_drew ?_ | refine blk_alloc ?_ _)); exact BK316.out) hg (Kd.R_ne HO_317004.out BK316.out (by decide))); have n6_ := Aside0.mk (hb); have n7_ := Aside0.mk (ho); clear HO_317002; clear HO_317003; clear BK306; clear BK307; clear BK308; clear BK316; clear HB; clear HO_317004; have HO_317002 := n0_; have HO_317003 := n1_; have BK306 := n2_; have BK307 := n3_; have BK308 := n4_; have BK316 := n5_; have HB := n6_; have HO323 := n7_; clear n0_ n1_ n2_ n3_ n4_ n5_ n6_ n7_; clear ho hb hg hat; obtain ⟨Ao70, co70, eo70⟩ := Kd.R_slice HO323.out; subst eo70; have hcz71_0 : w69.cell? ⟨gb316, 0, none⟩ = some (.int .i64 a0_0) := (blk_cell BK316.out 0).trans rfl; have hcz71_1 : w69.cell? ⟨gb316, 1, none⟩ = some (.int .i64 a0_1) := (blk_cell BK316.out 1).trans rfl; have hcz71_2 : w69.cell? ⟨gb316, 2, none⟩ = some (.slice Ao29 t310.length co29) := (blk_cell BK316.out 2).trans rfl; have hcz71_3 : w69.cell? ⟨gb316, 3, none⟩ = some (.slice Ao28 t313.length co28) := (blk_cell BK316.out 3).trans rfl; have hcz71_4 : w69.cell? ⟨gb316, 4, none⟩ = some (u317004) := (blk_cell BK316.out 4).trans rfl; have hfz71_0 := blk_frozen BK316.out 0; have hfz71_1 := blk_frozen BK316.out 1; have hfz71_2 := blk_frozen BK316.out 2; have hfz71_3 := blk_frozen BK316.out 3; have hfz71_4 := blk_frozen BK316.out 4; have hcz72_0 : w69.cell? ⟨gb307, 0, none⟩ = some (.int .i64 a1_0) := (blk_cell BK307.out 0).trans rfl; have hcz72_1 : w69.cell? ⟨gb307, 1, none⟩ = some (.int .i64 a1_1) := (blk_cell BK307.out 1).trans rfl; have hcz72_2 : w69.cell? ⟨gb307, 2, none⟩ = some (.int .i64 a1_2) := (blk_cell BK307.out 2).trans rfl; have hcz72_3 : w69.cell? ⟨gb307, 3, none⟩ = some (.int .i64 a1_3) := (blk_cell BK307.out 3).trans rfl; have hfz72_0 := blk_frozen BK307.out 0; have hfz72_1 := blk_frozen BK307.out 1; have hfz72_2 := blk_frozen BK307.out 2; have hfz72_3 := blk_frozen BK307.out 3) | ((with_reducible refine gate_builtin (b := .append) (xs := #[.tmp 58, .tmp 61]) rfl ?_); at_builtin; refine Kd.R_append (Kd.int .i64) (w0 := w) w.heap.size rfl (.tmp 58) (.tmp 61) 22 3 (.int .i64 0) 8 rfl Try.underlying22 info3 rfl (by decide) (by omega) (.slice Ao29 t310.length co29) t310 a1_1 [.int .i64 a1_1] (fun k_ => some k_ ≠ (.slice Ao28 t313.length co28 : Value).ownBlock) (fun _ => False) rfl (by first | (go_simp; done) | (go_simp; rfl)) ?aP (fun _ hk => hk.elim) ?aF ?aO ?aB ?aS ?aL ?_; (case aP => exact rfl); (case aB => exact (by repeat (first | (with_reducible first | exact HB.out | apply below_alloc | apply pw_below_drewN | apply below_drew1 | refine below_set ?_ GE306.out | refine below_set ?_ GE307.out | refine below_set ?_ GE308.out | refine below_set ?_ GE316.out) | exact HB.out))); (case aF => exact (fun k_ hk => Kd.fresh' (Kd.R_lt (by (with_reducible repeat (first | apply Kd.R_alloc | apply Kd.R_drewN | apply Kd.R_drew)); exact (Kd.R_mono (Kd.R_far (p := ⟨gb316, 4, none⟩) (Kd.R_types HO_317003.out BK316.out (by decide)) (fun _ hk => hk.2) (.slice Ao70 y321.length co70)) (fun _ h_ => h_.1)))) k_ hk)); (case aO => exact (by (with_reducible repeat (first | apply Kd.R_alloc | apply Kd.R_drewN | apply Kd.R_drew)); exact Kd.R_mono (Kd.R_far (p := ⟨gb316, 4, none⟩) (Kd.R_types HO_317002.out BK316.out (by decide)) (fun _ hk => hk.2) (.slice Ao70 y321.length co70)) (fun _ hk => hk.1))); (case aS => exact (below_size (by repeat (first | (with_reducible first | exact HB.out | apply below_alloc | apply pw_below_drewN | apply below_drew1 | refine below_set ?_ GE306.out | refine below_set ?_ GE307.out | refine below_set ?_ GE308.out | refine below_set ?_ GE316.out) | exact HB.out)))); (case aL => have := LMc58.out; omega); intro v325 w73 ho hb hg hat; rw [← Ny324.out] at ho; have n0_ := Aside0.mk (Kd.R_after (ok := (fun _ => True)) (by (with_reducible repeat (first | apply Kd.R_alloc | apply Kd.R_drewN | apply Kd.R_drew)); exact Kd.R_mono (Kd.R_far (p := ⟨gb316, 4, none⟩) (Kd.R_types HO_317003.out BK316.out (by decide)) (fun _ hk => hk.2) (.slice Ao70 y321.length co70)) (fun _ hk => ⟨trivial, hk.1⟩)) hg hat); have n1_ := Aside0.mk (blk_grown (g := gb306) (o := .cells #[.int .i64 a0_0, .int .i64 a0_1, .slice A0_2 l0_2.length c0_2, .slice A0_3 l0_3.length c0_3, .slice A0_4 l0_4.length c0_4] 25 (0, 0)) (by (with_reducible repeat (first | refine blk_drewN ?_ _ | refine blk_drew ?_ | refine blk_alloc ?_ _)); refine blk_far ?_ NB306_316.out _; (with_reducible repeat (first | refine blk_drewN ?_ _ | refine blk_drew ?_ | refine blk_alloc ?_ _)); exact BK306.out) hg (Kd.R_ne HO_317002.out BK306.out (by decide))); have n2_ := Aside0.mk (blk_grown (g := gb307) (o := .cells #[.int .i64 a1_0, .int .i64 a1_1, .int .i64 a1_2, .int .i64 a1_3] 34 (0, 0)) (by (with_reducible repeat (first | refine blk_drewN ?_ _ | refine blk_drew ?_ | refine blk_alloc ?_ _)); refine blk_far ?_ NB307_316.out _; (with_reducible repeat (first | refine blk_drewN ?_ _ | refine blk_drew ?_ | refine blk_alloc ?_ _)); exact BK307.out) hg (Kd.R_ne HO_317002.out BK307.out (by decide))); have n3_ := Aside0.mk (blk_grown (g := gb308) (o := .cells #[.int .i64 0, .int .i64 0, .slice none 0 0, .slice none 0 0, .slice none 0 0] 25 (0, 0)) (by (with_reducible repeat (first | refine blk_drewN ?_ _ | refine blk_drew ?_ | refine blk_alloc ?_ _)); refine blk_far ?_ NB308_316.out _; (with_reducible repeat (first | refine blk_drewN ?_ _ | refine blk_drew ?_ | refine blk_alloc ?_ _)); exact BK308.out) hg (Kd.R_ne HO_317002.out BK308.out (by decide))); have n4_ := Aside0.mk (blk_grown (g := gb316) (o := .cells #[.int .i64 a0_0, .int .i64 a0_1, .slice Ao29 t310.length co29, .slice Ao28 t313.length co28, .slice Ao70 y321.length co70] 25 (0, 0)) (by (with_reducible repeat (first | refine blk_drewN ?_ _ | refine blk_drew ?_ | refine blk_alloc ?_ _)); refine blk_put (cs := #[.int .i64 a0_0, .int .i64 a0_1, .slice Ao29 t310.length co29, .slice Ao28 t313.length co28, u317004]) ?_ 4 _ rfl; (with_reducible repeat (first | refine blk_drewN ?_ _ | refine blk_drew ?_ | refine blk_alloc ?_ _)); exact BK316.out) hg (Kd.R_ne HO_317002.out BK316.out (by decide))); have n5_ := Aside0.mk (Kd.R_over' (by (with_reducible repeat (first | apply Kd.R_alloc | apply Kd.R_drewN | apply Kd.R_drew)); exact (Kd.R_mono (Kd.R_far (p := ⟨gb316, 4, none⟩) (Kd.R_types HO323.out BK316.out (by decide)) (fun _ hk => hk.2) (.slice Ao70 y321.length co70)) (fun _ h_ => h_.1))) (Kd.R_typed (by (with_reducible repeat (first | apply Kd.R_alloc | apply Kd.R_drewN | apply Kd.R_drew)); exact (Kd.R_mono (Kd.R_far (p := ⟨gb316, 4, none⟩) (Kd.R_types HO_317002.out BK316.out (by decide)) (fun _ hk => hk.2) (.slice Ao70 y321.length co70)) (fun _ h_ => h_.1)))) (by decide) hg); have n6_ := Aside0.mk (hb); have n7_ := Aside0.mk (ho); clear HO_317003; clear BK306; clear BK307; clear BK308; clear BK316; clear HO323; clear HB; clear HO_317002; have HO_317003 := n0_; have BK306 := n1_; have BK307 := n2_; have BK308 := n3_; have BK316 := n4_; have HO323 := n5_; have HB := n6_; have HO326 := n7_; clear n0_ n1_ n2_ n3_ n4_ n5_ n6_ n7_; clear ho hb hg hat; obtain ⟨Ao74, co74, eo74⟩ := Kd.R_slice HO326.out; subst eo74; have hcz75_0 : w73.cell? ⟨gb316, 0, none⟩ = some (.int .i64 a0_0) := (blk_cell BK316.out 0).trans rfl; have hcz75_1 : w73.cell? ⟨gb316, 1, none⟩ = some (.int .i64 a0_1) := (blk_cell BK316.out 1).trans rfl; have hcz75_2 : w73.cell? ⟨gb316, 2, none⟩ = some (.slice Ao29 t310.length co29) := (blk_cell BK316.out 2).trans rfl; have hcz75_3 : w73.cell? ⟨gb316, 3, none⟩ = some (.slice Ao28 t313.length co28) := (blk_cell BK316.out 3).trans rfl; have hcz75_4 : w73.cell? ⟨gb316, 4, none⟩ = some (.slice Ao70 y321.length co70) := (blk_cell BK316.out 4).trans rfl; have hfz75_0 := blk_frozen BK316.out 0; have hfz75_1 := blk_frozen BK316.out 1; have hfz75_2 := blk_frozen BK316.out 2; have hfz75_3 := blk_frozen BK316.out 3; have hfz75_4 := blk_frozen BK316.out 4; have hcz76_0 : w73.cell? ⟨gb308, 0, none⟩ = some (.int .i64 0) := (blk_cell BK308.out 0).trans rfl; have hcz76_1 : w73.cell? ⟨gb308, 1, none⟩ = some (.int .i64 0) := (blk_cell BK308.out 1).trans rfl; have hcz76_2 : w73.cell? ⟨gb308, 2, none⟩ = some (.slice none 0 0) := (blk_cell BK308.out 2).trans rfl; have hcz76_3 : w73.cell? ⟨gb308, 3, none⟩ = some (.slice none 0 0) := (blk_cell BK308.out 3).trans rfl; have hcz76_4 : w73.cell? ⟨gb308, 4, none⟩ = some (.slice none 0 0) := (blk_cell BK308.out 4).trans rfl; have hfz76_0 := blk_frozen BK308.out 0; have hfz76_1 := blk_frozen BK308.out 1; have hfz76_2 := blk_frozen BK308.out 2; have hfz76_3 := blk_frozen BK308.out 3; have hfz76_4 := blk_frozen BK308.out 4))
          refine bodyPost_ret (results_ct rfl _ _ gb308 25 #[.int .i64 3, .int .i64 a0_1, .slice Ao74 y324.length co74, .slice Ao28 t313.length co28, .slice Ao70 y321.length co70] (0, 0) _ rfl (by (with_reducible repeat (first | refine blk_drewN ?_ _ | refine blk_drew ?_ | refine blk_alloc ?_ _)); refine blk_put (cs := #[.int .i64 3, .int .i64 a0_1, .slice Ao74 y324.length co74, .slice Ao28 t313.length co28, .slice none 0 0]) ?_ 4 _ rfl; (with_reducible repeat (first | refine blk_drewN ?_ _ | refine blk_drew ?_ | refine blk_alloc ?_ _)); refine blk_put (cs := #[.int .i64 3, .int .i64 a0_1, .slice Ao74 y324.length co74, .slice none 0 0, .slice none 0 0]) ?_ 3 _ rfl; (with_reducible repeat (first | refine blk_drewN ?_ _ | refine blk_drew ?_ | refine blk_alloc ?_ _)); refine blk_put (cs := #[.int .i64 3, .int .i64 a0_1, .slice none 0 0, .slice none 0 0, .slice none 0 0]) ?_ 2 _ rfl; (with_reducible repeat (first | refine blk_drewN ?_ _ | refine blk_drew ?_ | refine blk_alloc ?_ _)); refine blk_put (cs := #[.int .i64 3, .int .i64 0, .slice none 0 0, .slice none 0 0, .slice none 0 0]) ?_ 1 _ rfl; (with_reducible repeat (first | refine blk_drewN ?_ _ | refine blk_drew ?_ | refine blk_alloc ?_ _)); refine blk_put (cs := #[.int .i64 0, .int .i64 0, .slice none 0 0, .slice none 0 0, .slice none 0 0]) ?_ 0 _ rfl; (with_reducible repeat (first | refine blk_drewN ?_ _ | refine blk_drew ?_ | refine blk_alloc ?_ _)); refine blk_far ?_ NB308_316.out _; (with_reducible repeat (first | refine blk_drewN ?_ _ | refine blk_drew ?_ | refine blk_alloc ?_ _)); refine blk_far ?_ NB308_316.out _; (with_reducible repeat (first | refine blk_drewN ?_ _ | refine blk_drew ?_ | refine blk_alloc ?_ _)); exact BK308.out) Try.underlying25 rfl (by kernel_rfl)) rfl ?_
          exact ⟨_, _, _, by first | rfl | (simp [errW_none, errW_some] <;> rfl) | (simp [*, errW_none, errW_some] <;> rfl), by (with_reducible repeat (first | apply Kd.R_alloc | apply Kd.R_drewN | apply Kd.R_drew)); exact Kd.R_mono (Kd.R_far (p := ⟨gb308, 4, none⟩) (Kd.R_far (p := ⟨gb308, 3, none⟩) (Kd.R_far (p := ⟨gb308, 2, none⟩) (Kd.R_far (p := ⟨gb308, 1, none⟩) (Kd.R_far (p := ⟨gb308, 0, none⟩) (Kd.R_far (p := ⟨gb316, 0, none⟩) (Kd.R_far (p := ⟨gb316, 2, none⟩) (Kd.R_types (Kd.R_types HO326.out BK316.out (by decide)) BK308.out (by decide)) (fun _ hk => hk.1.2) (.slice Ao74 y324.length co74)) (fun _ hk => hk.1.2) (.int .i64 3)) (fun _ hk => hk.2) (.int .i64 3)) (fun _ hk => hk.2) (.int .i64 a0_1)) (fun _ hk => hk.2) (.slice Ao74 y324.length co74)) (fun _ hk => hk.2) (.slice Ao28 t313.length co28)) (fun _ hk => hk.2) (.slice Ao70 y321.length co70)) (fun _ hk => hk.1.1), by (with_reducible repeat (first | apply Kd.R_alloc | apply Kd.R_drewN | apply Kd.R_drew)); exact Kd.R_mono (Kd.R_far (p := ⟨gb308, 4, none⟩) (Kd.R_far (p := ⟨gb308, 3, none⟩) (Kd.R_far (p := ⟨gb308, 2, none⟩) (Kd.R_far (p := ⟨gb308, 1, none⟩) (Kd.R_far (p := ⟨gb308, 0, none⟩) (Kd.R_far (p := ⟨gb316, 0, none⟩) (Kd.R_far (p := ⟨gb316, 2, none⟩) (Kd.R_types (Kd.R_types HO_317003.out BK316.out (by decide)) BK308.out (by decide)) (fun _ hk => hk.1.2) (.slice Ao74 y324.length co74)) (fun _ hk => hk.1.2) (.int .i64 3)) (fun _ hk => hk.2) (.int .i64 3)) (fun _ hk => hk.2) (.int .i64 a0_1)) (fun _ hk => hk.2) (.slice Ao74 y324.length co74)) (fun _ hk => hk.2) (.slice Ao28 t313.length co28)) (fun _ hk => hk.2) (.slice Ao70 y321.length co70)) (fun _ hk => hk.1.1.2), by (with_reducible repeat (first | apply Kd.R_alloc | apply Kd.R_drewN | apply Kd.R_drew)); exact Kd.R_mono (Kd.R_far (p := ⟨gb308, 4, none⟩) (Kd.R_far (p := ⟨gb308, 3, none⟩) (Kd.R_far (p := ⟨gb308, 2, none⟩) (Kd.R_far (p := ⟨gb308, 1, none⟩) (Kd.R_far (p := ⟨gb308, 0, none⟩) (Kd.R_far (p := ⟨gb316, 0, none⟩) (Kd.R_far (p := ⟨gb316, 2, none⟩) (Kd.R_types (Kd.R_types HO323.out BK316.out (by decide)) BK308.out (by decide)) (fun _ hk => hk.1.2) (.slice Ao74 y324.length co74)) (fun _ hk => hk.1.2) (.int .i64 3)) (fun _ hk => hk.2) (.int .i64 3)) (fun _ hk => hk.2) (.int .i64 a0_1)) (fun _ hk => hk.2) (.slice Ao74 y324.length co74)) (fun _ hk => hk.2) (.slice Ao28 t313.length co28)) (fun _ hk => hk.2) (.slice Ao70 y321.length co70)) (fun _ hk => trivial), by repeat (first | (with_reducible first | exact HB.out | apply below_alloc | apply pw_below_drewN | apply below_drew1 | refine below_set ?_ GE306.out | refine below_set ?_ GE307.out | refine below_set ?_ GE308.out | refine below_set ?_ GE316.out) | exact HB.out)⟩
         ·
          rw [if_neg c59] at H
          have c59b0 : decide (2 ≤ (y324.length : Int)) = false := decide_eq_false c59
          have c59b1 : decide (2 ≤ y324.length) = false := decide_eq_false (by omega)
          clear c59
          simp only [Option.some.injEq, Prod.mk.injEq] at H
          obtain ⟨rfl, rfl, rfl, rfl, rfl, rfl⟩ := H
          have hnb77 := NB306_307.out
          have hnc77 := NB307_306.out
          have hnb78 := NB306_308.out
          have hnc78 := NB308_306.out
          have hnb79 := NB306_316.out
          have hnc79 := NB316_306.out
          have hcz80_0 : wr.cell? ⟨gb306, 0, none⟩ = some (.int .i64 a0_0) := (blk_cell BK306.out 0).trans rfl
          have hcz80_1 : wr.cell? ⟨gb306, 1, none⟩ = some (.int .i64 a0_1) := (blk_cell BK306.out 1).trans rfl
          have hcz80_2 : wr.cell? ⟨gb306, 2, none⟩ = some (.slice A0_2 l0_2.length c0_2) := (blk_cell BK306.out 2).trans rfl
          have hcz80_3 : wr.cell? ⟨gb306, 3, none⟩ = some (.slice A0_3 l0_3.length c0_3) := (blk_cell BK306.out 3).trans rfl
          have hcz80_4 : wr.cell? ⟨gb306, 4, none⟩ = some (.slice A0_4 l0_4.length c0_4) := (blk_cell BK306.out 4).trans rfl
          have hfz80_0 := blk_frozen BK306.out 0
          have hfz80_1 := blk_frozen BK306.out 1
          have hfz80_2 := blk_frozen BK306.out 2
          have hfz80_3 := blk_frozen BK306.out 3
          have hfz80_4 := blk_frozen BK306.out 4
          have hnb81 := NB316_307.out
          have hnc81 := NB307_316.out
          have hnb82 := NB316_308.out
          have hnc82 := NB308_316.out
          have hcz83_0 : wr.cell? ⟨gb316, 0, none⟩ = some (.int .i64 a0_0) := (blk_cell BK316.out 0).trans rfl
          have hcz83_1 : wr.cell? ⟨gb316, 1, none⟩ = some (.int .i64 a0_1) := (blk_cell BK316.out 1).trans rfl
          have hcz83_2 : wr.cell? ⟨gb316, 2, none⟩ = some (.slice Ao29 t310.length co29) := (blk_cell BK316.out 2).trans rfl
          have hcz83_3 : wr.cell? ⟨gb316, 3, none⟩ = some (.slice Ao28 t313.length co28) := (blk_cell BK316.out 3).trans rfl
          have hcz83_4 : wr.cell? ⟨gb316, 4, none⟩ = some (u317004) := (blk_cell BK316.out 4).trans rfl
          have hfz83_0 := blk_frozen BK316.out 0
          have hfz83_1 := blk_frozen BK316.out 1
          have hfz83_2 := blk_frozen BK316.out 2
          have hfz83_3 := blk_frozen BK316.out 3
          have hfz83_4 := blk_frozen BK316.out 4
          have hnb84 := NB307_308.out
          have hnc84 := NB308_307.out
          have hcz85_0 : wr.cell? ⟨gb307, 0, none⟩ = some (.int .i64 a1_0) := (blk_cell BK307.out 0).trans rfl
          have hcz85_1 : wr.cell? ⟨gb307, 1, none⟩ = some (.int .i64 a1_1) := (blk_cell BK307.out 1).trans rfl
          have hcz85_2 : wr.cell? ⟨gb307, 2, none⟩ = some (.int .i64 a1_2) := (blk_cell BK307.out 2).trans rfl
          have hcz85_3 : wr.cell? ⟨gb307, 3, none⟩ = some (.int .i64 a1_3) := (blk_cell BK307.out 3).trans rfl
          have hfz85_0 := blk_frozen BK307.out 0
          have hfz85_1 := blk_frozen BK307.out 1
          have hfz85_2 := blk_frozen BK307.out 2
          have hfz85_3 := blk_frozen BK307.out 3
          go_wp2_with (first | ((with_reducible refine gate_builtin (b := .append) (xs := #[.tmp 45, .tmp 47]) rfl ?_); at_builtin; refine Kd.R_append k34 (w0 := w) w.heap.size rfl (.tmp 45) (.tmp 47) 23 34 (.agg #[(.int .i64 0), (.int .i64 0), (.int .i64 0), (.int .i64 0)]) 32 rfl Try.underlying23 info34 rfl (by decide) (by omega) u317004 x317004_1 (⟨a1_0, a1_1, a1_2, a1_3⟩ : S34) [.int .i64 a1_0, .int .i64 a1_1, .int .i64 a1_2, .int .i64 a1_3] (fun k_ => k_ ≠ gb307) (fun _ => False) rfl rfl ?aP (fun _ hk => hk.elim) ?aF ?aO ?aB ?aS ?aL ?_; (case aP => exact k34_mkM _ _ _ (⟨a1_0, a1_1, a1_2, a1_3⟩ : S34)); (case aB => exact (by repeat (first | (with_reducible first | exact HB.out | apply below_alloc | apply pw_below_drewN | apply below_drew1 | refine below_set ?_ GE306.out | refine below_set ?_ GE307.out | refine below_set ?_ GE308.out | refine below_set ?_ GE316.out) | exact HB.out))); (case aF => exact (fun k_ hk => Kd.freshB (g := gb307) (o := .cells #[.int .i64 a1_0, .int .i64 a1_1, .int .i64 a1_2, .int .i64 a1_3] 34 (0, 0)) (by (with_reducible repeat (first | refine blk_drewN ?_ _ | refine blk_drew ?_ | refine blk_alloc ?_ _)); exact BK307.out) k_ hk)); (case aO => exact (by (with_reducible repeat (first | apply Kd.R_alloc | apply Kd.R_drewN | apply Kd.R_drew)); exact HO_317004.out)); (case aS => exact (below_size (by repeat (first | (with_reducible first | exact HB.out | apply below_alloc | apply pw_below_drewN | apply below_drew1 | refine below_set ?_ GE306.out | refine below_set ?_ GE307.out | refine below_set ?_ GE308.out | refine below_set ?_ GE316.out) | exact HB.out)))); (case aL => have := LMc41.out; omega); intro v322 w86 ho hb hg hat; rw [← Ny321.out] at ho; have n0_ := Aside0.mk (Kd.R_over' (by (with_reducible repeat (first | apply Kd.R_alloc | apply Kd.R_drewN | apply Kd.R_drew)); exact HO_317002.out) (Kd.R_typed (by (with_reducible repeat (first | apply Kd.R_alloc | apply Kd.R_drewN | apply Kd.R_drew)); exact HO_317004.out)) (by decide) hg); have n1_ := Aside0.mk (Kd.R_over' (by (with_reducible repeat (first | apply Kd.R_alloc | apply Kd.R_drewN | apply Kd.R_drew)); exact HO_317003.out) (Kd.R_typed (by (with_reducible repeat (first | apply Kd.R_alloc | apply Kd.R_drewN | apply Kd.R_drew)); exact HO_317004.out)) (by decide) hg); have n2_ := Aside0.mk (blk_grown (g := gb306) (o := .cells #[.int .i64 a0_0, .int .i64 a0_1, .slice A0_2 l0_2.length c0_2, .slice A0_3 l0_3.length c0_3, .slice A0_4 l0_4.length c0_4] 25 (0, 0)) (by (with_reducible repeat (first | refine blk_drewN ?_ _ | refine blk_drew ?_ | refine blk_alloc ?_ _)); exact BK306.out) hg (Kd.R_ne HO_317004.out BK306.out (by decide))); have n3_ := Aside0.mk (blk_grown (g := gb307) (o := .cells #[.int .i64 a1_0, .int .i64 a1_1, .int .i64 a1_2, .int .i64 a1_3] 34 (0, 0)) (by (with_reducible repeat (first | refine blk_drewN ?_ _ | refine blk_drew ?_ | refine blk_alloc ?_ _)); exact BK307.out) hg (Kd.R_away HO_317004.out (fun _ hk => hk))); have n4_ := Aside0.mk (blk_grown (g := gb308) (o := .cells #[.int .i64 0, .int .i64 0, .slice none 0 0, .slice none 0 0, .slice none 0 0] 25 (0, 0)) (by (with_reducible repeat (first | refine blk_drewN ?_ _ | refine blk_drew ?_ | refine blk_alloc ?_ _)); exact BK308.out) hg (Kd.R_ne HO_317004.out BK308.out (by decide))); have n5_ := Aside0.mk (blk_grown (g := gb316) (o := .cells #[.int .i64 a0_0, .int .i64 a0_1, .slice Ao29 t310.length co29, .slice Ao28 t313.length co28, u317004] 25 (0, 0)) (by (with_reducible repeat (first | refine blk_drewN ?_ _ | refine blk_drew ?_ | refine blk_alloc ?_ _)); exact BK316.out) hg (Kd.R_ne HO_317004.out BK316.out (by decide))); have n6_ := Aside0.mk (hb); have n7_ := Aside0.mk (ho); clear HO_317002; clear HO_317003; clear BK306; clear BK307; clear BK308; clear BK316; clear HB; clear HO_317004; have HO_317002 := n0_; have HO_317003 := n1_; have BK306 := n2_; have BK307 := n3_; have BK308 := n4_; have BK316 := n5_; have HB := n6_; have HO323 := n7_; clear n0_ n1_ n2_ n3_ n4_ n5_ n6_ n7_; clear ho hb hg hat; obtain ⟨Ao87, co87, eo87⟩ := Kd.R_slice HO323.out; subst eo87; have hcz88_0 : w86.cell? ⟨gb316, 0, none⟩ = some (.int .i64 a0_0) := (blk_cell BK316.out 0).trans rfl; have hcz88_1 : w86.cell? ⟨gb316, 1, none⟩ = some (.int .i64 a0_1) := (blk_cell BK316.out 1).trans rfl; have hcz88_2 : w86.cell? ⟨gb316, 2, none⟩ = some (.slice Ao29 t310.length co29) := (blk_cell BK316.out 2).trans rfl; have hcz88_3 : w86.cell? ⟨gb316, 3, none⟩ = some (.slice Ao28 t313.length co28) := (blk_cell BK316.out 3).trans rfl; have hcz88_4 : w86.cell? ⟨gb316, 4, none⟩ = some (u317004) := (blk_cell BK316.out 4).trans rfl; have hfz88_0 := blk_frozen BK316.out 0; have hfz88_1 := blk_frozen BK316.out 1; have hfz88_2 := blk_frozen BK316.out 2; have hfz88_3 := blk_frozen BK316.out 3; have hfz88_4 := blk_frozen BK316.out 4; have hcz89_0 : w86.cell? ⟨gb307, 0, none⟩ = some (.int .i64 a1_0) := (blk_cell BK307.out 0).trans rfl; have hcz89_1 : w86.cell? ⟨gb307, 1, none⟩ = some (.int .i64 a1_1) := (blk_cell BK307.out 1).trans rfl; have hcz89_2 : w86.cell? ⟨gb307, 2, none⟩ = some (.int .i64 a1_2) := (blk_cell BK307.out 2).trans rfl; have hcz89_3 : w86.cell? ⟨gb307, 3, none⟩ = some (.int .i64 a1_3) := (blk_cell BK307.out 3).trans rfl; have hfz89_0 := blk_frozen BK307.out 0; have hfz89_1 := blk_frozen BK307.out 1; have hfz89_2 := blk_frozen BK307.out 2; have hfz89_3 := blk_frozen BK307.out 3) | ((with_reducible refine gate_builtin (b := .append) (xs := #[.tmp 58, .tmp 61]) rfl ?_); at_builtin; refine Kd.R_append (Kd.int .i64) (w0 := w) w.heap.size rfl (.tmp 58) (.tmp 61) 22 3 (.int .i64 0) 8 rfl Try.underlying22 info3 rfl (by decide) (by omega) (.slice Ao29 t310.length co29) t310 a1_1 [.int .i64 a1_1] (fun k_ => some k_ ≠ (.slice Ao28 t313.length co28 : Value).ownBlock) (fun _ => False) rfl (by first | (go_simp; done) | (go_simp; rfl)) ?aP (fun _ hk => hk.elim) ?aF ?aO ?aB ?aS ?aL ?_; (case aP => exact rfl); (case aB => exact (by repeat (first | (with_reducible first | exact HB.out | apply below_alloc | apply pw_below_drewN | apply below_drew1 | refine below_set ?_ GE306.out | refine below_set ?_ GE307.out | refine below_set ?_ GE308.out | refine below_set ?_ GE316.out) | exact HB.out))); (case aF => exact (fun k_ hk => Kd.fresh' (Kd.R_lt (by (with_reducible repeat (first | apply Kd.R_alloc | apply Kd.R_drewN | apply Kd.R_drew)); exact (Kd.R_mono (Kd.R_far (p := ⟨gb316, 4, none⟩) (Kd.R_types HO_317003.out BK316.out (by decide)) (fun _ hk => hk.2) (.slice Ao87 y321.length co87)) (fun _ h_ => h_.1)))) k_ hk)); (case aO => exact (by (with_reducible repeat (first | apply Kd.R_alloc | apply Kd.R_drewN | apply Kd.R_drew)); exact Kd.R_mono (Kd.R_far (p := ⟨gb316, 4, none⟩) (Kd.R_types HO_317002.out BK316.out (by decide)) (fun _ hk => hk.2) (.slice Ao87 y321.length co87)) (fun _ hk => hk.1))); (case aS => exact (below_size (by repeat (first | (with_reducible first | exact HB.out | apply below_alloc | apply pw_below_drewN | apply below_drew1 | refine below_set ?_ GE306.out | refine below_set ?_ GE307.out | refine below_set ?_ GE308.out | refine below_set ?_ GE316.out) | exact HB.out)))); (case aL => have := LMc58.out; omega); intro v325 w90 ho hb hg hat; rw [← Ny324.out] at ho; have n0_ := Aside0.mk (Kd.R_after (ok := (fun _ => True)) (by (with_reducible repeat (first | apply Kd.R_alloc | apply Kd.R_drewN | apply Kd.R_drew)); exact Kd.R_mono (Kd.R_far (p := ⟨gb316, 4, none⟩) (Kd.R_types HO_317003.out BK316.out (by decide)) (fun _ hk => hk.2) (.slice Ao87 y321.length co87)) (fun _ hk => ⟨trivial, hk.1⟩)) hg hat); have n1_ := Aside0.mk (blk_grown (g := gb306) (o := .cells #[.int .i64 a0_0, .int .i64 a0_1, .slice A0_2 l0_2.length c0_2, .slice A0_3 l0_3.length c0_3, .slice A0_4 l0_4.length c0_4] 25 (0, 0)) (by (with_reducible repeat (first | refine blk_drewN ?_ _ | refine blk_drew ?_ | refine blk_alloc ?_ _)); refine blk_far ?_ NB306_316.out _; (with_reducible repeat (first | refine blk_drewN ?_ _ | refine blk_drew ?_ | refine blk_alloc ?_ _)); exact BK306.out) hg (Kd.R_ne HO_317002.out BK306.out (by decide))); have n2_ := Aside0.mk (blk_grown (g := gb307) (o := .cells #[.int .i64 a1_0, .int .i64 a1_1, .int .i64 a1_2, .int .i64 a1_3] 34 (0, 0)) (by (with_reducible repeat (first | refine blk_drewN ?_ _ | refine blk_drew ?_ | refine blk_alloc ?_ _)); refine blk_far ?_ NB307_316.out _; (with_reducible repeat (first | refine blk_drewN ?_ _ | refine blk_drew ?_ | refine blk_alloc ?_ _)); exact BK307.out) hg (Kd.R_ne HO_317002.out BK307.out (by decide))); have n3_ := Aside0.mk (blk_grown (g := gb308) (o := .cells #[.int .i64 0, .int .i64 0, .slice none 0 0, .slice none 0 0, .slice none 0 0] 25 (0, 0)) (by (with_reducible repeat (first | refine blk_drewN ?_ _ | refine blk_drew ?_ | refine blk_alloc ?_ _)); refine blk_far ?_ NB308_316.out _; (with_reducible repeat (first | refine blk_drewN ?_ _ | refine blk_drew ?_ | refine blk_alloc ?_ _)); exact BK308.out) hg (Kd.R_ne HO_317002.out BK308.out (by decide))); have n4_ := Aside0.mk (blk_grown (g := gb316) (o := .cells #[.int .i64 a0_0, .int .i64 a0_1, .slice Ao29 t310.length co29, .slice Ao28 t313.length co28, .slice Ao87 y321.length co87] 25 (0, 0)) (by (with_reducible repeat (first | refine blk_drewN ?_ _ | refine blk_drew ?_ | refine blk_alloc ?_ _)); refine blk_put (cs := #[.int .i64 a0_0, .int .i64 a0_1, .slice Ao29 t310.length co29, .slice Ao28 t313.length co28, u317004]) ?_ 4 _ rfl; (with_reducible repeat (first | refine blk_drewN ?_ _ | refine blk_drew ?_ | refine blk_alloc ?_ _)); exact BK316.out) hg (Kd.R_ne HO_317002.out BK316.out (by decide))); have n5_ := Aside0.mk (Kd.R_over' (by (with_reducible repeat (first | apply Kd.R_alloc | apply Kd.R_drewN | apply Kd.R_drew)); exact (Kd.R_mono (Kd.R_far (p := ⟨gb316, 4, none⟩) (Kd.R_types HO323.out BK316.out (by decide)) (fun _ hk => hk.2) (.slice Ao87 y321.length co87)) (fun _ h_ => h_.1))) (Kd.R_typed (by (with_reducible repeat (first | apply Kd.R_alloc | apply Kd.R_drewN | apply Kd.R_drew)); exact (Kd.R_mono (Kd.R_far (p := ⟨gb316, 4, none⟩) (Kd.R_types HO_317002.out BK316.out (by decide)) (fun _ hk => hk.2) (.slice Ao87 y321.length co87)) (fun _ h_ => h_.1)))) (by decide) hg); have n6_ := Aside0.mk (hb); have n7_ := Aside0.mk (ho); clear HO_317003; clear BK306; clear BK307; clear BK308; clear BK316; clear HO323; clear HB; clear HO_317002; have HO_317003 := n0_; have BK306 := n1_; have BK307 := n2_; have BK308 := n3_; have BK316 := n4_; have HO323 := n5_; have HB := n6_; have HO326 := n7_; clear n0_ n1_ n2_ n3_ n4_ n5_ n6_ n7_; clear ho hb hg hat; obtain ⟨Ao91, co91, eo91⟩ := Kd.R_slice HO326.out; subst eo91; have hcz92_0 : w90.cell? ⟨gb316, 0, none⟩ = some (.int .i64 a0_0) := (blk_cell BK316.out 0).trans rfl; have hcz92_1 : w90.cell? ⟨gb316, 1, none⟩ = some (.int .i64 a0_1) := (blk_cell BK316.out 1).trans rfl; have hcz92_2 : w90.cell? ⟨gb316, 2, none⟩ = some (.slice Ao29 t310.length co29) := (blk_cell BK316.out 2).trans rfl; have hcz92_3 : w90.cell? ⟨gb316, 3, none⟩ = some (.slice Ao28 t313.length co28) := (blk_cell BK316.out 3).trans rfl; have hcz92_4 : w90.cell? ⟨gb316, 4, none⟩ = some (.slice Ao87 y321.length co87) := (blk_cell BK316.out 4).trans rfl; have hfz92_0 := blk_frozen BK316.out 0; have hfz92_1 := blk_frozen BK316.out 1; have hfz92_2 := blk_frozen BK316.out 2; have hfz92_3 := blk_frozen BK316.out 3; have hfz92_4 := blk_frozen BK316.out 4; have hcz93_0 : w90.cell? ⟨gb308, 0, none⟩ = some (.int .i64 0) := (blk_cell BK308.out 0).trans rfl; have hcz93_1 : w90.cell? ⟨gb308, 1, none⟩ = some (.int .i64 0) := (blk_cell BK308.out 1).trans rfl; have hcz93_2 : w90.cell? ⟨gb308, 2, none⟩ = some (.slice none 0 0) := (blk_cell BK308.out 2).trans rfl; have hcz93_3 : w90.cell? ⟨gb308, 3, none⟩ = some (.slice none 0 0) := (blk_cell BK308.out 3).trans rfl; have hcz93_4 : w90.cell? ⟨gb308, 4, none⟩ = some (.slice none 0 0) := (blk_cell BK308.out 4).trans rfl; have hfz93_0 := blk_frozen BK308.out 0; have hfz93_1 := blk_frozen BK308.out 1; have hfz93_2 := blk_frozen BK308.out 2; have hfz93_3 := blk_frozen BK308.out 3; have hfz93_4 := blk_frozen BK308.out 4))
          refine bodyPost_ret (results_ct rfl _ _ gb308 25 #[.int .i64 a0_0, .int .i64 a0_1, .slice Ao91 y324.length co91, .slice Ao28 t313.length co28, .slice Ao87 y321.length co87] (0, 0) _ rfl (by (with_reducible repeat (first | refine blk_drewN ?_ _ | refine blk_drew ?_ | refine blk_alloc ?_ _)); refine blk_put (cs := #[.int .i64 a0_0, .int .i64 a0_1, .slice Ao91 y324.length co91, .slice Ao28 t313.length co28, .slice none 0 0]) ?_ 4 _ rfl; (with_reducible repeat (first | refine blk_drewN ?_ _ | refine blk_drew ?_ | refine blk_alloc ?_ _)); refine blk_put (cs := #[.int .i64 a0_0, .int .i64 a0_1, .slice Ao91 y324.length co91, .slice none 0 0, .slice none 0 0]) ?_ 3 _ rfl; (with_reducible repeat (first | refine blk_drewN ?_ _ | refine blk_drew ?_ | refine blk_alloc ?_ _)); refine blk_put (cs := #[.int .i64 a0_0, .int .i64 a0_1, .slice none 0 0, .slice none 0 0, .slice none 0 0]) ?_ 2 _ rfl; (with_reducible repeat (first | refine blk_drewN ?_ _ | refine blk_drew ?_ | refine blk_alloc ?_ _)); refine blk_put (cs := #[.int .i64 a0_0, .int .i64 0, .slice none 0 0, .slice none 0 0, .slice none 0 0]) ?_ 1 _ rfl; (with_reducible repeat (first | refine blk_drewN ?_ _ | refine blk_drew ?_ | refine blk_alloc ?_ _)); refine blk_put (cs := #[.int .i64 0, .int .i64 0, .slice none 0 0, .slice none 0 0, .slice none 0 0]) ?_ 0 _ rfl; (with_reducible repeat (first | refine blk_drewN ?_ _ | refine blk_drew ?_ | refine blk_alloc ?_ _)); refine blk_far ?_ NB308_316.out _; (with_reducible repeat (first | refine blk_drewN ?_ _ | refine blk_drew ?_ | refine blk_alloc ?_ _)); exact BK308.out) Try.underlying25 rfl (by kernel_rfl)) rfl ?_
          exact ⟨_, _, _, by first | rfl | (simp [errW_none, errW_some] <;> rfl) | (simp [*, errW_none, errW_some] <;> rfl), by (with_reducible repeat (first | apply Kd.R_alloc | apply Kd.R_drewN | apply Kd.R_drew)); exact Kd.R_mono (Kd.R_far (p := ⟨gb308, 4, none⟩) (Kd.R_far (p := ⟨gb308, 3, none⟩) (Kd.R_far (p := ⟨gb308, 2, none⟩) (Kd.R_far (p := ⟨gb308, 1, none⟩) (Kd.R_far (p := ⟨gb308, 0, none⟩) (Kd.R_far (p := ⟨gb316, 2, none⟩) (Kd.R_types (Kd.R_types HO326.out BK316.out (by decide)) BK308.out (by decide)) (fun _ hk => hk.1.2) (.slice Ao91 y324.length co91)) (fun _ hk => hk.2) (.int .i64 a0_0)) (fun _ hk => hk.2) (.int .i64 a0_1)) (fun _ hk => hk.2) (.slice Ao91 y324.length co91)) (fun _ hk => hk.2) (.slice Ao28 t313.length co28)) (fun _ hk => hk.2) (.slice Ao87 y321.length co87)) (fun _ hk => hk.1.1), by (with_reducible repeat (first | apply Kd.R_alloc | apply Kd.R_drewN | apply Kd.R_drew)); exact Kd.R_mono (Kd.R_far (p := ⟨gb308, 4, none⟩) (Kd.R_far (p := ⟨gb308, 3, none⟩) (Kd.R_far (p := ⟨gb308, 2, none⟩) (Kd.R_far (p := ⟨gb308, 1, none⟩) (Kd.R_far (p := ⟨gb308, 0, none⟩) (Kd.R_far (p := ⟨gb316, 2, none⟩) (Kd.R_types (Kd.R_types HO_317003.out BK316.out (by decide)) BK308.out (by decide)) (fun _ hk => hk.1.2) (.slice Ao91 y324.length co91)) (fun _ hk => hk.2) (.int .i64 a0_0)) (fun _ hk => hk.2) (.int .i64 a0_1)) (fun _ hk => hk.2) (.slice Ao91 y324.length co91)) (fun _ hk => hk.2) (.slice Ao28 t313.length co28)) (fun _ hk => hk.2) (.slice Ao87 y321.length co87)) (fun _ hk => hk.1.1.2), by (with_reducible repeat (first | apply Kd.R_alloc | apply Kd.R_drewN | apply Kd.R_drew)); exact Kd.R_mono (Kd.R_far (p := ⟨gb308, 4, none⟩) (Kd.R_far (p := ⟨gb308, 3, none⟩) (Kd.R_far (p := ⟨gb308, 2, none⟩) (Kd.R_far (p := ⟨gb308, 1, none⟩) (Kd.R_far (p := ⟨gb308, 0, none⟩) (Kd.R_far (p := ⟨gb316, 2, none⟩) (Kd.R_types (Kd.R_types HO323.out BK316.out (by decide)) BK308.out (by decide)) (fun _ hk => hk.1.2) (.slice Ao91 y324.length co91)) (fun _ hk => hk.2) (.int .i64 a0_0)) (fun _ hk => hk.2) (.int .i64 a0_1)) (fun _ hk => hk.2) (.slice Ao91 y324.length co91)) (fun _ hk => hk.2) (.slice Ao28 t313.length co28)) (fun _ hk => hk.2) (.slice Ao87 y321.length co87)) (fun _ hk => trivial), by repeat (first | (with_reducible first | exact HB.out | apply below_alloc | apply pw_below_drewN | apply below_drew1 | refine below_set ?_ GE306.out | refine below_set ?_ GE307.out | refine below_set ?_ GE308.out | refine below_set ?_ GE316.out) | exact HB.out)⟩
        ·
         rw [if_neg c58] at H
         exact absurd H (by simp)
       ·
        rw [if_neg c57] at H
        have c57b0 : (a1_0 == 2) = false := beq_eq_false_iff_ne.mpr c57
        have c57b1 : (a1_0 != 2) = true := bne_iff_ne.mpr c57
        have HC94 := Aside0.mk H
        clear H
        have hnb95 := NB306_307.out
        have hnc95 := NB307_306.out
        have hnb96 := NB306_308.out
        have hnc96 := NB308_306.out
        have hnb97 := NB306_316.out
        have hnc97 := NB316_306.out
        have hcz98_0 : wr.cell? ⟨gb306, 0, none⟩ = some (.int .i64 a0_0) := (blk_cell BK306.out 0).trans rfl
        have hcz98_1 : wr.cell? ⟨gb306, 1, none⟩ = some (.int .i64 a0_1) := (blk_cell BK306.out 1).trans rfl
        have hcz98_2 : wr.cell? ⟨gb306, 2, none⟩ = some (.slice A0_2 l0_2.length c0_2) := (blk_cell BK306.out 2).trans rfl
        have hcz98_3 : wr.cell? ⟨gb306, 3, none⟩ = some (.slice A0_3 l0_3.length c0_3) := (blk_cell BK306.out 3).trans rfl
        have hcz98_4 : wr.cell? ⟨gb306, 4, none⟩ = some (.slice A0_4 l0_4.length c0_4) := (blk_cell BK306.out 4).trans rfl
        have hfz98_0 := blk_frozen BK306.out 0
        have hfz98_1 := blk_frozen BK306.out 1
        have hfz98_2 := blk_frozen BK306.out 2
        have hfz98_3 := blk_frozen BK306.out 3
        have hfz98_4 := blk_frozen BK306.out 4
        have hnb99 := NB316_307.out
        have hnc99 := NB307_316.out
        have hnb100 := NB316_308.out
        have hnc100 := NB308_316.out
        have hcz101_0 : wr.cell? ⟨gb316, 0, none⟩ = some (.int .i64 a0_0) := (blk_cell BK316.out 0).trans rfl
        have hcz101_1 : wr.cell? ⟨gb316, 1, none⟩ = some (.int .i64 a0_1) := (blk_cell BK316.out 1).trans rfl
        have hcz101_2 : wr.cell? ⟨gb316, 2, none⟩ = some (.slice Ao29 t310.length co29) := (blk_cell BK316.out 2).trans rfl
        have hcz101_3 : wr.cell? ⟨gb316, 3, none⟩ = some (.slice Ao28 t313.length co28) := (blk_cell BK316.out 3).trans rfl
        have hcz101_4 : wr.cell? ⟨gb316, 4, none⟩ = some (u317004) := (blk_cell BK316.out 4).trans rfl
        have hfz101_0 := blk_frozen BK316.out 0
        have hfz101_1 := blk_frozen BK316.out 1
        have hfz101_2 := blk_frozen BK316.out 2
        have hfz101_3 := blk_frozen BK316.out 3
        have hfz101_4 := blk_frozen BK316.out 4
        have hnb102 := NB307_308.out
        have hnc102 := NB308_307.out
        have hcz103_0 : wr.cell? ⟨gb307, 0, none⟩ = some (.int .i64 a1_0) := (blk_cell BK307.out 0).trans rfl
        have hcz103_1 : wr.cell? ⟨gb307, 1, none⟩ = some (.int .i64 a1_1) := (blk_cell BK307.out 1).trans rfl
        have hcz103_2 : wr.cell? ⟨gb307, 2, none⟩ = some (.int .i64 a1_2) := (blk_cell BK307.out 2).trans rfl
        have hcz103_3 : wr.cell? ⟨gb307, 3, none⟩ = some (.int .i64 a1_3) := (blk_cell BK307.out 3).trans rfl
        have hfz103_0 := blk_frozen BK307.out 0
        have hfz103_1 := blk_frozen BK307.out 1
        have hfz103_2 := blk_frozen BK307.out 2
        have hfz103_3 := blk_frozen BK307.out 3
        go_upto_if 69 with (first | ((with_reducible refine gate_builtin (b := .append) (xs := #[.tmp 45, .tmp 47]) rfl ?_); at_builtin; refine Kd.R_append k34 (w0 := w) w.heap.size rfl (.tmp 45) (.tmp 47) 23 34 (.agg #[(.int .i64 0), (.int .i64 0), (.int .i64 0), (.int .i64 0)]) 32 rfl Try.underlying23 info34 rfl (by decide) (by omega) u317004 x317004_1 (⟨a1_0, a1_1, a1_2, a1_3⟩ : S34) [.int .i64 a1_0, .int .i64 a1_1, .int .i64 a1_2, .int .i64 a1_3] (fun k_ => k_ ≠ gb307) (fun _ => False) rfl rfl ?aP (fun _ hk => hk.elim) ?aF ?aO ?aB ?aS ?aL ?_; (case aP => exact k34_mkM _ _ _ (⟨a1_0, a1_1, a1_2, a1_3⟩ : S34)); (case aB => exact (by repeat (first | (with_reducible first | exact HB.out | apply below_alloc | apply pw_below_drewN | apply below_drew1 | refine below_set ?_ GE306.out | refine below_set ?_ GE307.out | refine below_set ?_ GE308.out | refine below_set ?_ GE316.out) | exact HB.out))); (case aF => exact (fun k_ hk => Kd.freshB (g := gb307) (o := .cells #[.int .i64 a1_0, .int .i64 a1_1, .int .i64 a1_2, .int .i64 a1_3] 34 (0, 0)) (by (with_reducible repeat (first | refine blk_drewN ?_ _ | refine blk_drew ?_ | refine blk_alloc ?_ _)); exact BK307.out) k_ hk)); (case aO => exact (by (with_reducible repeat (first | apply Kd.R_alloc | apply Kd.R_drewN | apply Kd.R_drew)); exact HO_317004.out)); (case aS => exact (below_size (by repeat (first | (with_reducible first | exact HB.out | apply below_alloc | apply pw_below_drewN | apply below_drew1 | refine below_set ?_ GE306.out | refine below_set ?_ GE307.out | refine below_set ?_ GE308.out | refine below_set ?_ GE316.out) | exact HB.out)))); (case aL => have := LMc41.out; omega); intro v322 w104 ho hb hg hat; rw [← Ny321.out] at ho; have n0_ := Aside0.mk (Kd.R_over' (by (with_reducible repeat (first | apply Kd.R_alloc | apply Kd.R_drewN | apply Kd.R_drew)); exact HO_317002.out) (Kd.R_typed (by (with_reducible repeat (first | apply Kd.R_alloc | apply Kd.R_drewN | apply Kd.R_drew)); exact HO_317004.out)) (by decide) hg); have n1_ := Aside0.mk (Kd.R_over' (by (with_reducible repeat (first | apply Kd.R_alloc | apply Kd.R_drewN | apply Kd.R_drew)); exact HO_317003.out) (Kd.R_typed (by (with_reducible repeat (first | apply Kd.R_alloc | apply Kd.R_drewN | apply Kd.R_drew)); exact HO_317004.out)) (by decide) hg); have n2_ := Aside0.mk (blk_grown (g := gb306) (o := .cells #[.int .i64 a0_0, .int .i64 a0_1, .slice A0_2 l0_2.length c0_2, .slice A0_3 l0_3.length c0_3, .slice A0_4 l0_4.length c0_4] 25 (0, 0)) (by (with_reducible repeat (first | refine blk_drewN ?_ _ | refine blk_drew ?_ | refine blk_alloc ?_ _)); exact BK306.out) hg (Kd.R_ne HO_317004.out BK306.out (by decide))); have n3_ := Aside0.mk (blk_grown (g := gb307) (o := .cells #[.int .i64 a1_0, .int .i64 a1_1, .int .i64 a1_2, .int .i64 a1_3] 34 (0, 0)) (by (with_reducible repeat (first | refine blk_drewN ?_ _ | refine blk_drew ?_ | refine blk_alloc ?_ _)); exact BK307.out) hg (Kd.R_away HO_317004.out (fun _ hk => hk))); have n4_ := Aside0.mk (blk_grown (g := gb308) (o := .cells #[.int .i64 0, .int .i64 0, .slice none 0 0, .slice none 0 0, .slice none 0 0] 25 (0, 0)) (by (with_reducible repeat (first | refine blk_drewN ?_ _ | refine blk_drew ?_ | refine blk_alloc ?_ _)); exact BK308.out) hg (Kd.R_ne HO_317004.out BK308.out (by decide))); have n5_ := Aside0.mk (blk_grown (g := gb316) (o := .cells #[.int .i64 a0_0, .int .i64 a0_1, .slice Ao29 t310.length co29, .slice Ao28 t313.length co28, u317004] 25 (0, 0)) (by (with_reducible repeat (first | refine blk_drewN ?_ _ | refine blk_drew ?_ | refine blk_alloc ?_ _)); exact BK316.out) hg (Kd.R_ne HO_317004.out BK316.out (by decide))); have n6_ := Aside0.mk (hb); have n7_ := Aside0.mk (ho); clear HO_317002; clear HO_317003; clear BK306; clear BK307; clear BK308; clear BK316; clear HB; clear HO_317004; have HO_317002 := n0_; have HO_317003 := n1_; have BK306 := n2_; have BK307 := n3_; have BK308 := n4_; have BK316 := n5_; have HB := n6_; have HO323 := n7_; clear n0_ n1_ n2_ n3_ n4_ n5_ n6_ n7_; clear ho hb hg hat; obtain ⟨Ao105, co105, eo105⟩ := Kd.R_slice HO323.out; subst eo105; have hcz106_0 : w104.cell? ⟨gb316, 0, none⟩ = some (.int .i64 a0_0) := (blk_cell BK316.out 0).trans rfl; have hcz106_1 : w104.cell? ⟨gb316, 1, none⟩ = some (.int .i64 a0_1) := (blk_cell BK316.out 1).trans rfl; have hcz106_2 : w104.cell? ⟨gb316, 2, none⟩ = some (.slice Ao29 t310.length co29) := (blk_cell BK316.out 2).trans rfl; have hcz106_3 : w104.cell? ⟨gb316, 3, none⟩ = some (.slice Ao28 t313.length co28) := (blk_cell BK316.out 3).trans rfl; have hcz106_4 : w104.cell? ⟨gb316, 4, none⟩ = some (u317004) := (blk_cell BK316.out 4).trans rfl; have hfz106_0 := blk_frozen BK316.out 0; have hfz106_1 := blk_frozen BK316.out 1; have hfz106_2 := blk_frozen BK316.out 2; have hfz106_3 := blk_frozen BK316.out 3; have hfz106_4 := blk_frozen BK316.out 4; have hcz107_0 : w104.cell? ⟨gb307, 0, none⟩ = some (.int .i64 a1_0) := (blk_cell BK307.out 0).trans rfl; have hcz107_1 : w104.cell? ⟨gb307, 1, none⟩ = some (.int .i64 a1_1) := (blk_cell BK307.out 1).trans rfl; have hcz107_2 : w104.cell? ⟨gb307, 2, none⟩ = some (.int .i64 a1_2) := (blk_cell BK307.out 2).trans rfl; have hcz107_3 : w104.cell? ⟨gb307, 3, none⟩ = some (.int .i64 a1_3) := (blk_cell BK307.out 3).trans rfl; have hfz107_0 := blk_frozen BK307.out 0; have hfz107_1 := blk_frozen BK307.out 1; have hfz107_2 := blk_frozen BK307.out 2; have hfz107_3 := blk_frozen BK307.out 3))
        (try simp only [Act.put, List.setIfInBounds_toArray, List.set_cons_zero, List.set_cons_succ])
        go_cut [69] (fun v69 wc => ∃ (kq : Nat) (x69_93 : Bool), v69 = .bool x69_93 ∧ Aside0 (examboardref15_Apply.j1 kq a1_0 x69_93 a1_0 a1_1 a1_2 a1_3 a0_0 a0_1 t310 t313 y321 = some (r1, r2, r3, r4, r5, r6)) ∧ Aside0 (kq ≤ k1) ∧ Aside0 (Kd.R (Kd.int .i64) 3 wc w.heap.size (fun k_ => some k_ ≠ ((.slice Ao28 t313.length co28) : Value).ownBlock) (.slice Ao29 t310.length co29) t310) ∧ Aside0 (Kd.R (Kd.int .i64) 3 wc w.heap.size (fun k_ => some k_ ≠ ((.slice Ao29 t310.length co29) : Value).ownBlock) (.slice Ao28 t313.length co28) t313) ∧ Aside0 (Kd.R k34 34 wc w.heap.size (fun k_ => k_ ≠ gb307) (.slice Ao105 y321.length co105) y321) ∧ Aside0 (wc.heap[gb306]? = some (.cells #[.int .i64 a0_0, .int .i64 a0_1, (.slice A0_2 l0_2.length c0_2), (.slice A0_3 l0_3.length c0_3), (.slice A0_4 l0_4.length c0_4)] 25 (0, 0))) ∧ Aside0 (wc.heap[gb307]? = some (.cells #[.int .i64 a1_0, .int .i64 a1_1, .int .i64 a1_2, .int .i64 a1_3] 34 (0, 0))) ∧ Aside0 (wc.heap[gb308]? = some (.cells #[.int .i64 0, .int .i64 0, (.slice none 0 0), (.slice none 0 0), (.slice none 0 0)] 25 (0, 0))) ∧ Aside0 (wc.heap[gb316]? = some (.cells #[.int .i64 a0_0, .int .i64 a0_1, (.slice Ao29 t310.length co29), (.slice Ao28 t313.length co28), (.slice Ao105 y321.length co105)] 25 (0, 0))) ∧ Aside0 (Below w.heap.size w wc))
        case first =>
         have H := HC94.out
         clear HC94
         by_cases c108 : a1_0 = 3
         ·
          rw [if_pos c108] at H
          have c108b0 : (a1_0 == 3) = true := beq_iff_eq.mpr c108
          have c108b1 : (a1_0 != 3) = false := bne_eq_false_iff_eq.mpr c108
          clear c108
          (first | rw [c108b0] | (simp only [i64_w, i32_w]; rw [c108b0]) | skip)
          have H' := Aside0.mk H
          clear H
          go_wp2
          go_meet
          case rel => exact ⟨_, ((a1_0 == 3)), (by first | rfl | (simp; done) | (simp [*]; done)), H', ⟨by have := HK1.out; first | omega | exact Nat.le_refl _⟩, ⟨by (with_reducible repeat (first | apply Kd.R_alloc | apply Kd.R_drewN | apply Kd.R_drew)); exact Kd.R_mono (Kd.R_far (p := ⟨gb316, 4, none⟩) (Kd.R_types HO_317002.out BK316.out (by decide)) (fun _ hk => hk.2) (.slice Ao105 y321.length co105)) (fun _ hk => hk.1)⟩, ⟨by (with_reducible repeat (first | apply Kd.R_alloc | apply Kd.R_drewN | apply Kd.R_drew)); exact Kd.R_mono (Kd.R_far (p := ⟨gb316, 4, none⟩) (Kd.R_types HO_317003.out BK316.out (by decide)) (fun _ hk => hk.2) (.slice Ao105 y321.length co105)) (fun _ hk => hk.1)⟩, ⟨by (with_reducible repeat (first | apply Kd.R_alloc | apply Kd.R_drewN | apply Kd.R_drew)); exact Kd.R_mono (Kd.R_far (p := ⟨gb316, 4, none⟩) (Kd.R_types HO323.out BK316.out (by decide)) (fun _ hk => hk.2) (.slice Ao105 y321.length co105)) (fun _ hk => hk.1)⟩, ⟨by (with_reducible repeat (first | refine blk_drewN ?_ _ | refine blk_drew ?_ | refine blk_alloc ?_ _)); refine blk_far ?_ NB306_316.out _; (with_reducible repeat (first | refine blk_drewN ?_ _ | refine blk_drew ?_ | refine blk_alloc ?_ _)); exact BK306.out⟩, ⟨by (with_reducible repeat (first | refine blk_drewN ?_ _ | refine blk_drew ?_ | refine blk_alloc ?_ _)); refine blk_far ?_ NB307_316.out _; (with_reducible repeat (first | refine blk_drewN ?_ _ | refine blk_drew ?_ | refine blk_alloc ?_ _)); exact BK307.out⟩, ⟨by (with_reducible repeat (first | refine blk_drewN ?_ _ | refine blk_drew ?_ | refine blk_alloc ?_ _)); refine blk_far ?_ NB308_316.out _; (with_reducible repeat (first | refine blk_drewN ?_ _ | refine blk_drew ?_ | refine blk_alloc ?_ _)); exact BK308.out⟩, ⟨by (with_reducible repeat (first | refine blk_drewN ?_ _ | refine blk_drew ?_ | refine blk_alloc ?_ _)); refine blk_put (cs := #[.int .i64 a0_0, .int .i64 a0_1, .slice Ao29 t310.length co29, .slice Ao28 t313.length co28, u317004]) ?_ 4 _ rfl; (with_reducible repeat (first | refine blk_drewN ?_ _ | refine blk_drew ?_ | refine blk_alloc ?_ _)); exact BK316.out⟩, ⟨by repeat (first | (with_reducible first | exact HB.out | apply below_alloc | apply pw_below_drewN | apply below_drew1 | refine below_set ?_ GE306.out | refine below_set ?_ GE307.out | refine below_set ?_ GE308.out | refine below_set ?_ GE316.out) | exact HB.out)⟩⟩
         ·
          rw [if_neg c108] at H
          have c108b0 : (a1_0 == 3) = false := beq_eq_false_iff_ne.mpr c108
          have c108b1 : (a1_0 != 3) = true := bne_iff_ne.mpr c108
          (first | rw [c108b0] | (simp only [i64_w, i32_w]; rw [c108b0]) | skip)
          have H' := Aside0.mk H
          clear H
          go_wp2
          go_meet
          case rel => exact ⟨_, ((a1_0 == 9)), (by first | rfl | (simp; done) | (simp [*]; done)), H', ⟨by have := HK1.out; first | omega | exact Nat.le_refl _⟩, ⟨by (with_reducible repeat (first | apply Kd.R_alloc | apply Kd.R_drewN | apply Kd.R_drew)); exact Kd.R_mono (Kd.R_far (p := ⟨gb316, 4, none⟩) (Kd.R_types HO_317002.out BK316.out (by decide)) (fun _ hk => hk.2) (.slice Ao105 y321.length co105)) (fun _ hk => hk.1)⟩, ⟨by (with_reducible repeat (first | apply Kd.R_alloc | apply Kd.R_drewN | apply Kd.R_drew)); exact Kd.R_mono (Kd.R_far (p := ⟨gb316, 4, none⟩) (Kd.R_types HO_317003.out BK316.out (by decide)) (fun _ hk => hk.2) (.slice Ao105 y321.length co105)) (fun _ hk => hk.1)⟩, ⟨by (with_reducible repeat (first | apply Kd.R_alloc | apply Kd.R_drewN | apply Kd.R_drew)); exact Kd.R_mono (Kd.R_far (p := ⟨gb316, 4, none⟩) (Kd.R_types HO323.out BK316.out (by decide)) (fun _ hk => hk.2) (.slice Ao105 y321.length co105)) (fun _ hk => hk.1)⟩, ⟨by (with_reducible repeat (first | refine blk_drewN ?_ _ | refine blk_drew ?_ | refine blk_alloc ?_ _)); refine blk_far ?_ NB306_316.out _; (with_reducible repeat (first | refine blk_drewN ?_ _ | refine blk_drew ?_ | refine blk_alloc ?_ _)); exact BK306.out⟩, ⟨by (with_reducible repeat (first | refine blk_drewN ?_ _ | refine blk_drew ?_ | refine blk_alloc ?_ _)); refine blk_far ?_ NB307_316.out _; (with_reducible repeat (first | refine blk_drewN ?_ _ | refine blk_drew ?_ | refine blk_alloc ?_ _)); exact BK307.out⟩, ⟨by (with_reducible repeat (first | refine blk_drewN ?_ _ | refine blk_drew ?_ | refine blk_alloc ?_ _)); refine blk_far ?_ NB308_316.out _; (with_reducible repeat (first | refine blk_drewN ?_ _ | refine blk_drew ?_ | refine blk_alloc ?_ _)); exact BK308.out⟩, ⟨by (with_reducible repeat (first | refine blk_drewN ?_ _ | refine blk_drew ?_ | refine blk_alloc ?_ _)); refine blk_put (cs := #[.int .i64 a0_0, .int .i64 a0_1, .slice Ao29 t310.length co29, .slice Ao28 t313.length co28, u317004]) ?_ 4 _ rfl; (with_reducible repeat (first | refine blk_drewN ?_ _ | refine blk_drew ?_ | refine blk_alloc ?_ _)); exact BK316.out⟩, ⟨by repeat (first | (with_reducible first | exact HB.out | apply below_alloc | apply pw_below_drewN | apply below_drew1 | refine below_set ?_ GE306.out | refine below_set ?_ GE307.out | refine below_set ?_ GE308.out | refine below_set ?_ GE316.out) | exact HB.out)⟩⟩
        case rest =>
         clear HC94
         (try clear c1); (try clear c2); (try clear p2); (try clear c3); (try clear p3); (try clear q3); (try clear hx3); (try clear c4); (try clear c4b0); (try clear c4b1); (try clear c5); (try clear c6); (try clear p6); (try clear c7); (try clear c8); (try clear c9); (try clear c10); (try clear c11); (try clear c13); (try clear c19); (try clear c24); (try clear c30); (try clear c30b0); (try clear c31); (try clear c31b0); (try clear p31); (try clear q31); (try clear hx31); (try clear c32); (try clear c33); (try clear c34); (try clear c35); (try clear c41); (try clear c42); (try clear c42b0); (try clear c42b1); (try clear c43); (try clear c44); (try clear c45); (try clear c47); (try clear c48); (try clear c50); (try clear c57); (try clear c57b0); (try clear c57b1); (try clear c58); (try clear c59); (try clear c59b0); (try clear c59b1); (try clear c60); (try clear c61); (try clear c62); (try clear c64); (try clear p64); (try clear c65); (try clear c67); (try clear c77); (try clear c78); (try clear c79); (try clear c81); (try clear c82); (try clear c84); (try clear c95); (try clear c96); (try clear c97); (try clear c99); (try clear c100); (try clear c102); (try clear c108); (try clear c108b0); (try clear c108b1); (try clear hcz101_0); (try clear hcz101_1); (try clear hcz101_2); (try clear hcz101_3); (try clear hcz101_4); (try clear hcz103_0); (try clear hcz103_1); (try clear hcz103_2); (try clear hcz103_3); (try clear hcz106_0); (try clear hcz106_1); (try clear hcz106_2); (try clear hcz106_3); (try clear hcz106_4); (try clear hcz107_0); (try clear hcz107_1); (try clear hcz107_2); (try clear hcz107_3); (try clear hcz12_0); (try clear hcz12_1); (try clear hcz12_2); (try clear hcz12_3); (try clear hcz12_4); (try clear hcz14_0); (try clear hcz14_1); (try clear hcz14_2); (try clear hcz14_3); (try clear hcz36_0); (try clear hcz36_1); (try clear hcz36_2); (try clear hcz36_3); (try clear hcz36_4); (try clear hcz46_0); (try clear hcz46_1); (try clear hcz46_2); (try clear hcz46_3); (try clear hcz46_4); (try clear hcz49_0); (try clear hcz49_1); (try clear hcz49_2); (try clear hcz49_3); (try clear hcz49_4); (try clear hcz51_0); (try clear hcz51_1); (try clear hcz51_2); (try clear hcz51_3); (try clear hcz54_0); (try clear hcz54_1); (try clear hcz54_2); (try clear hcz54_3); (try clear hcz54_4); (try clear hcz55_0); (try clear hcz55_1); (try clear hcz55_2); (try clear hcz55_3); (try clear hcz56_0); (try clear hcz56_1); (try clear hcz56_2); (try clear hcz56_3); (try clear hcz56_4); (try clear hcz63_0); (try clear hcz63_1); (try clear hcz63_2); (try clear hcz63_3); (try clear hcz63_4); (try clear hcz66_0); (try clear hcz66_1); (try clear hcz66_2); (try clear hcz66_3); (try clear hcz66_4); (try clear hcz68_0); (try clear hcz68_1); (try clear hcz68_2); (try clear hcz68_3); (try clear hcz71_0); (try clear hcz71_1); (try clear hcz71_2); (try clear hcz71_3); (try clear hcz71_4); (try clear hcz72_0); (try clear hcz72_1); (try clear hcz72_2); (try clear hcz72_3); (try clear hcz75_0)
         (try clear hcz75_1); (try clear hcz75_2); (try clear hcz75_3); (try clear hcz75_4); (try clear hcz76_0); (try clear hcz76_1); (try clear hcz76_2); (try clear hcz76_3); (try clear hcz76_4); (try clear hcz80_0); (try clear hcz80_1); (try clear hcz80_2); (try clear hcz80_3); (try clear hcz80_4); (try clear hcz83_0); (try clear hcz83_1); (try clear hcz83_2); (try clear hcz83_3); (try clear hcz83_4); (try clear hcz85_0); (try clear hcz85_1); (try clear hcz85_2); (try clear hcz85_3); (try clear hcz88_0); (try clear hcz88_1); (try clear hcz88_2); (try clear hcz88_3); (try clear hcz88_4); (try clear hcz89_0); (try clear hcz89_1); (try clear hcz89_2); (try clear hcz89_3); (try clear hcz92_0); (try clear hcz92_1); (try clear hcz92_2); (try clear hcz92_3); (try clear hcz92_4); (try clear hcz93_0); (try clear hcz93_1); (try clear hcz93_2); (try clear hcz93_3); (try clear hcz93_4); (try clear hcz98_0); (try clear hcz98_1); (try clear hcz98_2); (try clear hcz98_3); (try clear hcz98_4); (try clear hfz101_0); (try clear hfz101_1); (try clear hfz101_2); (try clear hfz101_3); (try clear hfz101_4); (try clear hfz103_0); (try clear hfz103_1); (try clear hfz103_2); (try clear hfz103_3); (try clear hfz106_0); (try clear hfz106_1); (try clear hfz106_2); (try clear hfz106_3); (try clear hfz106_4); (try clear hfz107_0); (try clear hfz107_1); (try clear hfz107_2); (try clear hfz107_3); (try clear hfz12_0); (try clear hfz12_1); (try clear hfz12_2); (try clear hfz12_3); (try clear hfz12_4); (try clear hfz14_0); (try clear hfz14_1); (try clear hfz14_2); (try clear hfz14_3); (try clear hfz36_0); (try clear hfz36_1); (try clear hfz36_2); (try clear hfz36_3); (try clear hfz36_4); (try clear hfz46_0); (try clear hfz46_1); (try clear hfz46_2); (try clear hfz46_3); (try clear hfz46_4); (try clear hfz49_0); (try clear hfz49_1); (try clear hfz49_2); (try clear hfz49_3); (try clear hfz49_4); (try clear hfz51_0); (try clear hfz51_1); (try clear hfz51_2); (try clear hfz51_3); (try clear hfz54_0); (try clear hfz54_1); (try clear hfz54_2); (try clear hfz54_3); (try clear hfz54_4); (try clear hfz55_0); (try clear hfz55_1); (try clear hfz55_2); (try clear hfz55_3); (try clear hfz56_0); (try clear hfz56_1); (try clear hfz56_2); (try clear hfz56_3); (try clear hfz56_4); (try clear hfz63_0); (try clear hfz63_1); (try clear hfz63_2); (try clear hfz63_3); (try clear hfz63_4); (try clear hfz66_0); (try clear hfz66_1); (try clear hfz66_2); (try clear hfz66_3); (try clear hfz66_4); (try clear hfz68_0); (try clear hfz68_1); (try clear hfz68_2); (try clear hfz68_3); (try clear hfz71_0); (try clear hfz71_1); (try clear hfz71_2); (try clear hfz71_3); (try clear hfz71_4); (try clear hfz72_0); (try clear hfz72_1); (try clear hfz72_2); (try clear hfz72_3); (try clear hfz75_0); (try clear hfz75_1); (try clear hfz75_2); (try clear hfz75_3); (try clear hfz75_4); (try clear hfz76_0); (try clear hfz76_1); (try clear hfz76_2); (try clear hfz76_3); (try clear hfz76_4); (try clear hfz80_0); (try clear hfz80_1); (try clear hfz80_2)
         (try clear hfz80_3); (try clear hfz80_4); (try clear hfz83_0); (try clear hfz83_1); (try clear hfz83_2); (try clear hfz83_3); (try clear hfz83_4); (try clear hfz85_0); (try clear hfz85_1); (try clear hfz85_2); (try clear hfz85_3); (try clear hfz88_0); (try clear hfz88_1); (try clear hfz88_2); (try clear hfz88_3); (try clear hfz88_4); (try clear hfz89_0); (try clear hfz89_1); (try clear hfz89_2); (try clear hfz89_3); (try clear hfz92_0); (try clear hfz92_1); (try clear hfz92_2); (try clear hfz92_3); (try clear hfz92_4); (try clear hfz93_0); (try clear hfz93_1); (try clear hfz93_2); (try clear hfz93_3); (try clear hfz93_4); (try clear hfz98_0); (try clear hfz98_1); (try clear hfz98_2); (try clear hfz98_3); (try clear hfz98_4); (try clear hx317_0); (try clear hx317_1); (try clear hx317_2); (try clear hx317_3); (try clear p2); (try clear p317); (try clear q317)
         obtain ⟨kq, x69_93, rfl, HA, HJ93, HO_317002, HO_317003, HO_317004, BK306, BK307, BK308, BK316, HB⟩ := hcut
         cases kq with
         | zero => exact absurd HA.out (by simp [examboardref15_Apply.j1])
         | succ kj93 =>
          have H := HA.out
          clear HA
          simp only [examboardref15_Apply.j1] at H
          by_cases c109 : x69_93 = true
          ·
           subst c109
           have H1 : (some (1, a0_1, ([] : List Int), ([] : List Int), y321, 0)) = some (r1, r2, r3, r4, r5, r6) := by rw [if_pos rfl] at H; exact H
           clear H
           have H := H1
           clear H1
           simp only [Option.some.injEq, Prod.mk.injEq] at H
           obtain ⟨rfl, rfl, rfl, rfl, rfl, rfl⟩ := H
           have hnb110 := NB316_306.out
           have hnc110 := NB306_316.out
           have hnb111 := NB316_307.out
           have hnc111 := NB307_316.out
           have hnb112 := NB316_308.out
           have hnc112 := NB308_316.out
           have hcz113_0 : wc.cell? ⟨gb316, 0, none⟩ = some (.int .i64 a0_0) := (blk_cell BK316.out 0).trans rfl
           have hcz113_1 : wc.cell? ⟨gb316, 1, none⟩ = some (.int .i64 a0_1) := (blk_cell BK316.out 1).trans rfl
           have hcz113_2 : wc.cell? ⟨gb316, 2, none⟩ = some (.slice Ao29 t310.length co29) := (blk_cell BK316.out 2).trans rfl
           have hcz113_3 : wc.cell? ⟨gb316, 3, none⟩ = some (.slice Ao28 t313.length co28) := (blk_cell BK316.out 3).trans rfl
           have hcz113_4 : wc.cell? ⟨gb316, 4, none⟩ = some (.slice Ao105 y321.length co105) := (blk_cell BK316.out 4).trans rfl
           have hfz113_0 := blk_frozen BK316.out 0
           have hfz113_1 := blk_frozen BK316.out 1
           have hfz113_2 := blk_frozen BK316.out 2
           have hfz113_3 := blk_frozen BK316.out 3
           have hfz113_4 := blk_frozen BK316.out 4
           have hnb114 := NB308_306.out
           have hnc114 := NB306_308.out
           have hnb115 := NB308_307.out
           have hnc115 := NB307_308.out
           have hcz116_0 : wc.cell? ⟨gb308, 0, none⟩ = some (.int .i64 0) := (blk_cell BK308.out 0).trans rfl
           have hcz116_1 : wc.cell? ⟨gb308, 1, none⟩ = some (.int .i64 0) := (blk_cell BK308.out 1).trans rfl
           have hcz116_2 : wc.cell? ⟨gb308, 2, none⟩ = some (.slice none 0 0) := (blk_cell BK308.out 2).trans rfl
           have hcz116_3 : wc.cell? ⟨gb308, 3, none⟩ = some (.slice none 0 0) := (blk_cell BK308.out 3).trans rfl
           have hcz116_4 : wc.cell? ⟨gb308, 4, none⟩ = some (.slice none 0 0) := (blk_cell BK308.out 4).trans rfl
           have hfz116_0 := blk_frozen BK308.out 0
           have hfz116_1 := blk_frozen BK308.out 1
           have hfz116_2 := blk_frozen BK308.out 2
           have hfz116_3 := blk_frozen BK308.out 3
           have hfz116_4 := blk_frozen BK308.out 4
           go_wp2
           refine bodyPost_ret (results_ct rfl _ _ gb308 25 #[.int .i64 1, .int .i64 a0_1, .slice none 0 0, .slice none 0 0, .slice Ao105 y321.length co105] (0, 0) _ rfl (by (with_reducible repeat (first | refine blk_drewN ?_ _ | refine blk_drew ?_ | refine blk_alloc ?_ _)); refine blk_put (cs := #[.int .i64 1, .int .i64 a0_1, .slice none 0 0, .slice none 0 0, .slice none 0 0]) ?_ 4 _ rfl; (with_reducible repeat (first | refine blk_drewN ?_ _ | refine blk_drew ?_ | refine blk_alloc ?_ _)); refine blk_put (cs := #[.int .i64 1, .int .i64 a0_1, .slice none 0 0, .slice none 0 0, .slice none 0 0]) ?_ 3 _ rfl; (with_reducible repeat (first | refine blk_drewN ?_ _ | refine blk_drew ?_ | refine blk_alloc ?_ _)); refine blk_put (cs := #[.int .i64 1, .int .i64 a0_1, .slice none 0 0, .slice none 0 0, .slice none 0 0]) ?_ 2 _ rfl; (with_reducible repeat (first | refine blk_drewN ?_ _ | refine blk_drew ?_ | refine blk_alloc ?_ _)); refine blk_put (cs := #[.int .i64 1, .int .i64 0, .slice none 0 0, .slice none 0 0, .slice none 0 0]) ?_ 1 _ rfl; (with_reducible repeat (first | refine blk_drewN ?_ _ | refine blk_drew ?_ | refine blk_alloc ?_ _)); refine blk_put (cs := #[.int .i64 0, .int .i64 0, .slice none 0 0, .slice none 0 0, .slice none 0 0]) ?_ 0 _ rfl; (with_reducible repeat (first | refine blk_drewN ?_ _ | refine blk_drew ?_ | refine blk_alloc ?_ _)); refine blk_far ?_ NB308_316.out _; (with_reducible repeat (first | refine blk_drewN ?_ _ | refine blk_drew ?_ | refine blk_alloc ?_ _)); refine blk_far ?_ NB308_316.out _; (with_reducible repeat (first | refine blk_drewN ?_ _ | refine blk_drew ?_ | refine blk_alloc ?_ _)); refine blk_far ?_ NB308_316.out _; (with_reducible repeat (first | refine blk_drewN ?_ _ | refine blk_drew ?_ | refine blk_alloc ?_ _)); exact BK308.out) Try.underlying25 rfl (by kernel_rfl)) rfl ?_
           exact ⟨_, _, _, by first | rfl | (simp [errW_none, errW_some] <;> rfl) | (simp [*, errW_none, errW_some] <;> rfl), by first | exact Kd.R_nil _ _ _ _ _ | exact Kd.N_nil _ _ _ _ _ | exact Kd.V_nil _ _ _ _ _ | exact Kd.Q_nil _ _ _ _ _ | exact Kd.S_nil _ _ _ _ _, by first | exact Kd.R_nil _ _ _ _ _ | exact Kd.N_nil _ _ _ _ _ | exact Kd.V_nil _ _ _ _ _ | exact Kd.Q_nil _ _ _ _ _ | exact Kd.S_nil _ _ _ _ _, by (with_reducible repeat (first | apply Kd.R_alloc | apply Kd.R_drewN | apply Kd.R_drew)); exact Kd.R_mono (Kd.R_far (p := ⟨gb308, 4, none⟩) (Kd.R_far (p := ⟨gb308, 3, none⟩) (Kd.R_far (p := ⟨gb308, 2, none⟩) (Kd.R_far (p := ⟨gb308, 1, none⟩) (Kd.R_far (p := ⟨gb308, 0, none⟩) (Kd.R_far (p := ⟨gb316, 3, none⟩) (Kd.R_far (p := ⟨gb316, 2, none⟩) (Kd.R_far (p := ⟨gb316, 0, none⟩) (Kd.R_types (Kd.R_types HO_317004.out BK316.out (by decide)) BK308.out (by decide)) (fun _ hk => hk.1.2) (.int .i64 1)) (fun _ hk => hk.1.2) (.slice none 0 0)) (fun _ hk => hk.1.2) (.slice none 0 0)) (fun _ hk => hk.2) (.int .i64 1)) (fun _ hk => hk.2) (.int .i64 a0_1)) (fun _ hk => hk.2) (.slice none 0 0)) (fun _ hk => hk.2) (.slice none 0 0)) (fun _ hk => hk.2) (.slice Ao105 y321.length co105)) (fun _ hk => trivial), by repeat (first | (with_reducible first | exact HB.out | apply below_alloc | apply pw_below_drewN | apply below_drew1 | refine below_set ?_ GE306.out | refine below_set ?_ GE307.out | refine below_set ?_ GE308.out | refine below_set ?_ GE316.out) | exact HB.out)⟩
          ·
           replace c109 := Bool.eq_false_iff.mpr c109
           subst c109
           have H1 : (if a1_0 = 4 then (if t313.length < 17592186044416 then (some (4, a0_1, t310, (t313 ++ [a1_1]), y321, 0)) else (none)) else (if a1_0 = 5 then (examboardref15_Apply.j2 kj93 a1_0 (a1_0 == 5) a0_0 a0_1 t310 t313 y321) else (examboardref15_Apply.j2 kj93 a1_0 (a1_0 == 7) a0_0 a0_1 t310 t313 y321))) = some (r1, r2, r3, r4, r5, r6) := by rw [if_neg (show ¬ (false = true) by decide)] at H; exact H
           clear H
           have H := H1
           clear H1
           by_cases c117 : a1_0 = 4
           ·
            rw [if_pos c117] at H
            have c117b0 : (a1_0 == 4) = true := beq_iff_eq.mpr c117
            have c117b1 : (a1_0 != 4) = false := bne_eq_false_iff_eq.mpr c117
            clear c117
            by_cases c118 : t313.length < 17592186044416
            ·
             rw [if_pos c118] at H
             have LMc118 := Aside0.mk c118
             clear c118
             obtain ⟨y327, hy327⟩ : ∃ y_ : List Int, y_ = (t313 ++ [a1_1]) := ⟨_, rfl⟩
             replace H : (some (4, a0_1, t310, y327, y321, 0)) = some (r1, r2, r3, r4, r5, r6) := by first | (rw [hy327]; with_reducible exact H) | (have H2_ := (Option.bind_some _ _).symm.trans H; rw [hy327]; with_reducible exact H2_) | (have H2_ := (Option.bind_some _ _).symm.trans H; with_reducible exact H2_) | with_reducible exact H | (rw [hy327]; exact H) | exact H
             have Ny327 := Aside0.mk hy327
             clear hy327
             simp only [Option.some.injEq, Prod.mk.injEq] at H
             obtain ⟨rfl, rfl, rfl, rfl, rfl, rfl⟩ := H
             have hnb119 := NB316_306.out
             have hnc119 := NB306_316.out
             have hnb120 := NB316_307.out
             have hnc120 := NB307_316.out
             have hnb121 := NB316_308.out
             have hnc121 := NB308_316.out
             have hcz122_0 : wc.cell? ⟨gb316, 0, none⟩ = some (.int .i64 a0_0) := (blk_cell BK316.out 0).trans rfl
             have hcz122_1 : wc.cell? ⟨gb316, 1, none⟩ = some (.int .i64 a0_1) := (blk_cell BK316.out 1).trans rfl
             have hcz122_2 : wc.cell? ⟨gb316, 2, none⟩ = some (.slice Ao29 t310.length co29) := (blk_cell BK316.out 2).trans rfl
             have hcz122_3 : wc.cell? ⟨gb316, 3, none⟩ = some (.slice Ao28 t313.length co28) := (blk_cell BK316.out 3).trans rfl
             have hcz122_4 : wc.cell? ⟨gb316, 4, none⟩ = some (.slice Ao105 y321.length co105) := (blk_cell BK316.out 4).trans rfl
             have hfz122_0 := blk_frozen BK316.out 0
             have hfz122_1 := blk_frozen BK316.out 1
             have hfz122_2 := blk_frozen BK316.out 2
             have hfz122_3 := blk_frozen BK316.out 3
             have hfz122_4 := blk_frozen BK316.out 4
             have hnb123 := NB307_306.out
             have hnc123 := NB306_307.out
             have hnb124 := NB307_308.out
             have hnc124 := NB308_307.out
             have hcz125_0 : wc.cell? ⟨gb307, 0, none⟩ = some (.int .i64 a1_0) := (blk_cell BK307.out 0).trans rfl
             have hcz125_1 : wc.cell? ⟨gb307, 1, none⟩ = some (.int .i64 a1_1) := (blk_cell BK307.out 1).trans rfl
             have hcz125_2 : wc.cell? ⟨gb307, 2, none⟩ = some (.int .i64 a1_2) := (blk_cell BK307.out 2).trans rfl
             have hcz125_3 : wc.cell? ⟨gb307, 3, none⟩ = some (.int .i64 a1_3) := (blk_cell BK307.out 3).trans rfl
             have hfz125_0 := blk_frozen BK307.out 0
             have hfz125_1 := blk_frozen BK307.out 1
             have hfz125_2 := blk_frozen BK307.out 2
             have hfz125_3 := blk_frozen BK307.out 3
             go_wp2_with (first | ((with_reducible refine gate_builtin (b := .append) (xs := #[.tmp 78, .tmp 81]) rfl ?_); at_builtin; refine Kd.R_append (Kd.int .i64) (w0 := w) w.heap.size rfl (.tmp 78) (.tmp 81) 22 3 (.int .i64 0) 8 rfl Try.underlying22 info3 rfl (by decide) (by omega) (.slice Ao28 t313.length co28) t313 a1_1 [.int .i64 a1_1] (fun k_ => some k_ ≠ (.slice Ao29 t310.length co29 : Value).ownBlock) (fun _ => False) rfl rfl ?aP (fun _ hk => hk.elim) ?aF ?aO ?aB ?aS ?aL ?_; (case aP => exact rfl); (case aB => exact (by repeat (first | (with_reducible first | exact HB.out | apply below_alloc | apply pw_below_drewN | apply below_drew1 | refine below_set ?_ GE306.out | refine below_set ?_ GE307.out | refine below_set ?_ GE308.out | refine below_set ?_ GE316.out) | exact HB.out))); (case aF => exact (fun k_ hk => Kd.fresh' (Kd.R_lt (by (with_reducible repeat (first | apply Kd.R_alloc | apply Kd.R_drewN | apply Kd.R_drew)); exact HO_317002.out)) k_ hk)); (case aO => exact (by (with_reducible repeat (first | apply Kd.R_alloc | apply Kd.R_drewN | apply Kd.R_drew)); exact HO_317003.out)); (case aS => exact (below_size (by repeat (first | (with_reducible first | exact HB.out | apply below_alloc | apply pw_below_drewN | apply below_drew1 | refine below_set ?_ GE306.out | refine below_set ?_ GE307.out | refine below_set ?_ GE308.out | refine below_set ?_ GE316.out) | exact HB.out)))); (case aL => have := LMc118.out; omega); intro v328 w126 ho hb hg hat; rw [← Ny327.out] at ho; have n0_ := Aside0.mk (Kd.R_after (ok := (fun _ => True)) (by (with_reducible repeat (first | apply Kd.R_alloc | apply Kd.R_drewN | apply Kd.R_drew)); exact Kd.R_mono HO_317002.out (fun _ hk => ⟨trivial, hk⟩)) hg hat); have n1_ := Aside0.mk (Kd.R_over' (by (with_reducible repeat (first | apply Kd.R_alloc | apply Kd.R_drewN | apply Kd.R_drew)); exact HO_317004.out) (Kd.R_typed (by (with_reducible repeat (first | apply Kd.R_alloc | apply Kd.R_drewN | apply Kd.R_drew)); exact HO_317003.out)) (by decide) hg); have n2_ := Aside0.mk (blk_grown (g := gb306) (o := .cells #[.int .i64 a0_0, .int .i64 a0_1, .slice A0_2 l0_2.length c0_2, .slice A0_3 l0_3.length c0_3, .slice A0_4 l0_4.length c0_4] 25 (0, 0)) (by (with_reducible repeat (first | refine blk_drewN ?_ _ | refine blk_drew ?_ | refine blk_alloc ?_ _)); exact BK306.out) hg (Kd.R_ne HO_317003.out BK306.out (by decide))); have n3_ := Aside0.mk (blk_grown (g := gb307) (o := .cells #[.int .i64 a1_0, .int .i64 a1_1, .int .i64 a1_2, .int .i64 a1_3] 34 (0, 0)) (by (with_reducible repeat (first | refine blk_drewN ?_ _ | refine blk_drew ?_ | refine blk_alloc ?_ _)); exact BK307.out) hg (Kd.R_ne HO_317003.out BK307.out (by decide))); have n4_ := Aside0.mk (blk_grown (g := gb308) (o := .cells #[.int .i64 0, .int .i64 0, .slice none 0 0, .slice none 0 0, .slice none 0 0] 25 (0, 0)) (by (with_reducible repeat (first | refine blk_drewN ?_ _ | refine blk_drew ?_ | refine blk_alloc ?_ _)); exact BK308.out) hg (Kd.R_ne HO_317003.out BK308.out (by decide))); have n5_ := Aside0.mk (blk_grown (g := gb316) (o := .cells #[.int .i64 a0_0, .int .i64 a0_1, .slice Ao29 t310.length co29, .slice Ao28 t313.length co28, .slice Ao105 y321.length co105] 25 (0, 0)) (by (with_reducible repeat (first | refine blk_drewN ?_ _ | refine blk_drew ?_ | refine blk_alloc ?_ _)); exact BK316.out) hg (Kd.R_ne HO_317003.out BK316.out (by decide))); have n6_ := Aside0.mk (hb); have n7_ := Aside0.mk (ho); clear HO_317002; clear HO_317004; clear BK306; clear BK307; clear BK308; clear BK316; clear HB; clear HO_317003; have HO_317002 := n0_; have HO_317004 := n1_; have BK306 := n2_; have BK307 := n3_; have BK308 := n4_; have BK316 := n5_; have HB := n6_; have HO329 := n7_; clear n0_ n1_ n2_ n3_ n4_ n5_ n6_ n7_; clear ho hb hg hat; obtain ⟨Ao127, co127, eo127⟩ := Kd.R_slice HO329.out; subst eo127; have hcz128_0 : w126.cell? ⟨gb316, 0, none⟩ = some (.int .i64 a0_0) := (blk_cell BK316.out 0).trans rfl; have hcz128_1 : w126.cell? ⟨gb316, 1, none⟩ = some (.int .i64 a0_1) := (blk_cell BK316.out 1).trans rfl; have hcz128_2 : w126.cell? ⟨gb316, 2, none⟩ = some (.slice Ao29 t310.length co29) := (blk_cell BK316.out 2).trans rfl; have hcz128_3 : w126.cell? ⟨gb316, 3, none⟩ = some (.slice Ao28 t313.length co28) := (blk_cell BK316.out 3).trans rfl; have hcz128_4 : w126.cell? ⟨gb316, 4, none⟩ = some (.slice Ao105 y321.length co105) := (blk_cell BK316.out 4).trans rfl; have hfz128_0 := blk_frozen BK316.out 0; have hfz128_1 := blk_frozen BK316.out 1; have hfz128_2 := blk_frozen BK316.out 2; have hfz128_3 := blk_frozen BK316.out 3; have hfz128_4 := blk_frozen BK316.out 4; have hnb129 := NB308_306.out; have hnc129 := NB306_308.out; have hcz130_0 : w126.cell? ⟨gb308, 0, none⟩ = some (.int .i64 0) := (blk_cell BK308.out 0).trans rfl; have hcz130_1 : w126.cell? ⟨gb308, 1, none⟩ = some (.int .i64 0) := (blk_cell BK308.out 1).trans rfl; have hcz130_2 : w126.cell? ⟨gb308, 2, none⟩ = some (.slice none 0 0) := (blk_cell BK308.out 2).trans rfl; have hcz130_3 : w126.cell? ⟨gb308, 3, none⟩ = some (.slice none 0 0) := (blk_cell BK308.out 3).trans rfl; have hcz130_4 : w126.cell? ⟨gb308, 4, none⟩ = some (.slice none 0 0) := (blk_cell BK308.out 4).trans rfl; have hfz130_0 := blk_frozen BK308.out 0; have hfz130_1 := blk_frozen BK308.out 1; have hfz130_2 := blk_frozen BK308.out 2; have hfz130_3 := blk_frozen BK308.out 3; have hfz130_4 := blk_frozen BK308.out 4))
             refine bodyPost_ret (results_ct rfl _ _ gb308 25 #[.int .i64 4, .int .i64 a0_1, .slice Ao29 t310.length co29, .slice Ao127 y327.length co127, .slice Ao105 y321.length co105] (0, 0) _ rfl (by (with_reducible repeat (first | refine blk_drewN ?_ _ | refine blk_drew ?_ | refine blk_alloc ?_ _)); refine blk_put (cs := #[.int .i64 4, .int .i64 a0_1, .slice Ao29 t310.length co29, .slice Ao127 y327.length co127, .slice none 0 0]) ?_ 4 _ rfl; (with_reducible repeat (first | refine blk_drewN ?_ _ | refine blk_drew ?_ | refine blk_alloc ?_ _)); refine blk_put (cs := #[.int .i64 4, .int .i64 a0_1, .slice Ao29 t310.length co29, .slice none 0 0, .slice none 0 0]) ?_ 3 _ rfl; (with_reducible repeat (first | refine blk_drewN ?_ _ | refine blk_drew ?_ | refine blk_alloc ?_ _)); refine blk_put (cs := #[.int .i64 4, .int .i64 a0_1, .slice none 0 0, .slice none 0 0, .slice none 0 0]) ?_ 2 _ rfl; (with_reducible repeat (first | refine blk_drewN ?_ _ | refine blk_drew ?_ | refine blk_alloc ?_ _)); refine blk_put (cs := #[.int .i64 4, .int .i64 0, .slice none 0 0, .slice none 0 0, .slice none 0 0]) ?_ 1 _ rfl; (with_reducible repeat (first | refine blk_drewN ?_ _ | refine blk_drew ?_ | refine blk_alloc ?_ _)); refine blk_put (cs := #[.int .i64 0, .int .i64 0, .slice none 0 0, .slice none 0 0, .slice none 0 0]) ?_ 0 _ rfl; (with_reducible repeat (first | refine blk_drewN ?_ _ | refine blk_drew ?_ | refine blk_alloc ?_ _)); refine blk_far ?_ NB308_316.out _; (with_reducible repeat (first | refine blk_drewN ?_ _ | refine blk_drew ?_ | refine blk_alloc ?_ _)); refine blk_far ?_ NB308_316.out _; (with_reducible repeat (first | refine blk_drewN ?_ _ | refine blk_drew ?_ | refine blk_alloc ?_ _)); exact BK308.out) Try.underlying25 rfl (by kernel_rfl)) rfl ?_
             exact ⟨_, _, _, by first | rfl | (simp [errW_none, errW_some] <;> rfl) | (simp [*, errW_none, errW_some] <;> rfl), by (with_reducible repeat (first | apply Kd.R_alloc | apply Kd.R_drewN | apply Kd.R_drew)); exact Kd.R_mono (Kd.R_far (p := ⟨gb308, 4, none⟩) (Kd.R_far (p := ⟨gb308, 3, none⟩) (Kd.R_far (p := ⟨gb308, 2, none⟩) (Kd.R_far (p := ⟨gb308, 1, none⟩) (Kd.R_far (p := ⟨gb308, 0, none⟩) (Kd.R_far (p := ⟨gb316, 0, none⟩) (Kd.R_far (p := ⟨gb316, 3, none⟩) (Kd.R_types (Kd.R_types HO_317002.out BK316.out (by decide)) BK308.out (by decide)) (fun _ hk => hk.1.2) (.slice Ao127 y327.length co127)) (fun _ hk => hk.1.2) (.int .i64 4)) (fun _ hk => hk.2) (.int .i64 4)) (fun _ hk => hk.2) (.int .i64 a0_1)) (fun _ hk => hk.2) (.slice Ao29 t310.length co29)) (fun _ hk => hk.2) (.slice Ao127 y327.length co127)) (fun _ hk => hk.2) (.slice Ao105 y321.length co105)) (fun _ hk => hk.1.1.2), by (with_reducible repeat (first | apply Kd.R_alloc | apply Kd.R_drewN | apply Kd.R_drew)); exact Kd.R_mono (Kd.R_far (p := ⟨gb308, 4, none⟩) (Kd.R_far (p := ⟨gb308, 3, none⟩) (Kd.R_far (p := ⟨gb308, 2, none⟩) (Kd.R_far (p := ⟨gb308, 1, none⟩) (Kd.R_far (p := ⟨gb308, 0, none⟩) (Kd.R_far (p := ⟨gb316, 0, none⟩) (Kd.R_far (p := ⟨gb316, 3, none⟩) (Kd.R_types (Kd.R_types HO329.out BK316.out (by decide)) BK308.out (by decide)) (fun _ hk => hk.1.2) (.slice Ao127 y327.length co127)) (fun _ hk => hk.1.2) (.int .i64 4)) (fun _ hk => hk.2) (.int .i64 4)) (fun _ hk => hk.2) (.int .i64 a0_1)) (fun _ hk => hk.2) (.slice Ao29 t310.length co29)) (fun _ hk => hk.2) (.slice Ao127 y327.length co127)) (fun _ hk => hk.2) (.slice Ao105 y321.length co105)) (fun _ hk => hk.1.1), by (with_reducible repeat (first | apply Kd.R_alloc | apply Kd.R_drewN | apply Kd.R_drew)); exact Kd.R_mono (Kd.R_far (p := ⟨gb308, 4, none⟩) (Kd.R_far (p := ⟨gb308, 3, none⟩) (Kd.R_far (p := ⟨gb308, 2, none⟩) (Kd.R_far (p := ⟨gb308, 1, none⟩) (Kd.R_far (p := ⟨gb308, 0, none⟩) (Kd.R_far (p := ⟨gb316, 0, none⟩) (Kd.R_far (p := ⟨gb316, 3, none⟩) (Kd.R_types (Kd.R_types HO_317004.out BK316.out (by decide)) BK308.out (by decide)) (fun _ hk => hk.1.2) (.slice Ao127 y327.length co127)) (fun _ hk => hk.1.2) (.int .i64 4)) (fun _ hk => hk.2) (.int .i64 4)) (fun _ hk => hk.2) (.int .i64 a0_1)) (fun _ hk => hk.2) (.slice Ao29 t310.length co29)) (fun _ hk => hk.2) (.slice Ao127 y327.length co127)) (fun _ hk => hk.2) (.slice Ao105 y321.length co105)) (fun _ hk => trivial), by repeat (first | (with_reducible first | exact HB.out | apply below_alloc | apply pw_below_drewN | apply below_drew1 | refine below_set ?_ GE306.out | refine below_set ?_ GE307.out | refine below_set ?_ GE308.out | refine below_set ?_ GE316.out) | exact HB.out)⟩
            ·
             rw [if_neg c118] at H
             exact absurd H (by simp)
           ·
            rw [if_neg c117] at H
            have c117b0 : (a1_0 == 4) = false := beq_eq_false_iff_ne.mpr c117
            have c117b1 : (a1_0 != 4) = true := bne_iff_ne.mpr c117
            have HC131 := Aside0.mk H
            clear H
            go_upto_if 85 with (fail)
            go_cut [85] (fun v85 wc => ∃ (kq : Nat) (x85_130 : Bool), v85 = .bool x85_130 ∧ Aside0 (examboardref15_Apply.j2 kq a1_0 x85_130 a0_0 a0_1 t310 t313 y321 = some (r1, r2, r3, r4, r5, r6)) ∧ Aside0 (kq ≤ kj93) ∧ Aside0 (Kd.R (Kd.int .i64) 3 wc w.heap.size (fun k_ => some k_ ≠ ((.slice Ao28 t313.length co28) : Value).ownBlock) (.slice Ao29 t310.length co29) t310) ∧ Aside0 (Kd.R (Kd.int .i64) 3 wc w.heap.size (fun k_ => some k_ ≠ ((.slice Ao29 t310.length co29) : Value).ownBlock) (.slice Ao28 t313.length co28) t313) ∧ Aside0 (Kd.R k34 34 wc w.heap.size (fun k_ => k_ ≠ gb307) (.slice Ao105 y321.length co105) y321) ∧ Aside0 (wc.heap[gb306]? = some (.cells #[.int .i64 a0_0, .int .i64 a0_1, (.slice A0_2 l0_2.length c0_2), (.slice A0_3 l0_3.length c0_3), (.slice A0_4 l0_4.length c0_4)] 25 (0, 0))) ∧ Aside0 (wc.heap[gb307]? = some (.cells #[.int .i64 a1_0, .int .i64 a1_1, .int .i64 a1_2, .int .i64 a1_3] 34 (0, 0))) ∧ Aside0 (wc.heap[gb308]? = some (.cells #[.int .i64 0, .int .i64 0, (.slice none 0 0), (.slice none 0 0), (.slice none 0 0)] 25 (0, 0))) ∧ Aside0 (wc.heap[gb316]? = some (.cells #[.int .i64 a0_0, .int .i64 a0_1, (.slice Ao29 t310.length co29), (.slice Ao28 t313.length co28), (.slice Ao105 y321.length co105)] 25 (0, 0))) ∧ Aside0 (Below w.heap.size w wc))
            case first =>
             have H := HC131.out
             clear HC131
             by_cases c132 : a1_0 = 5
             ·
              rw [if_pos c132] at H
              have c132b0 : (a1_0 == 5) = true := beq_iff_eq.mpr c132
              have c132b1 : (a1_0 != 5) = false := bne_eq_false_iff_eq.mpr c132
              clear c132
              (first | rw [c132b0] | (simp only [i64_w, i32_w]; rw [c132b0]) | skip)
              have H' := Aside0.mk H
              clear H
              go_wp2
              go_meet
              case rel => exact ⟨_, ((a1_0 == 5)), (by first | rfl | (simp; done) | (simp [*]; done)), H', ⟨by have := HK1.out; have := HJ93.out; first | omega | exact Nat.le_refl _⟩, ⟨by (with_reducible repeat (first | apply Kd.R_alloc | apply Kd.R_drewN | apply Kd.R_drew)); exact HO_317002.out⟩, ⟨by (with_reducible repeat (first | apply Kd.R_alloc | apply Kd.R_drewN | apply Kd.R_drew)); exact HO_317003.out⟩, ⟨by (with_reducible repeat (first | apply Kd.R_alloc | apply Kd.R_drewN | apply Kd.R_drew)); exact HO_317004.out⟩, ⟨by (with_reducible repeat (first | refine blk_drewN ?_ _ | refine blk_drew ?_ | refine blk_alloc ?_ _)); exact BK306.out⟩, ⟨by (with_reducible repeat (first | refine blk_drewN ?_ _ | refine blk_drew ?_ | refine blk_alloc ?_ _)); exact BK307.out⟩, ⟨by (with_reducible repeat (first | refine blk_drewN ?_ _ | refine blk_drew ?_ | refine blk_alloc ?_ _)); exact BK308.out⟩, ⟨by (with_reducible repeat (first | refine blk_drewN ?_ _ | refine blk_drew ?_ | refine blk_alloc ?_ _)); exact BK316.out⟩, ⟨by repeat (first | (with_reducible first | exact HB.out | apply below_alloc | apply pw_below_drewN | apply below_drew1 | refine below_set ?_ GE306.out | refine below_set ?_ GE307.out | refine below_set ?_ GE308.out | refine below_set ?_ GE316.out) | exact HB.out)⟩⟩
             ·
              rw [if_neg c132] at H
              have c132b0 : (a1_0 == 5) = false := beq_eq_false_iff_ne.mpr c132
              have c132b1 : (a1_0 != 5) = true := bne_iff_ne.mpr c132
              (first | rw [c132b0] | (simp only [i64_w, i32_w]; rw [c132b0]) | skip)
              have H' := Aside0.mk H
              clear H
              go_wp2
              go_meet
              case rel => exact ⟨_, ((a1_0 == 7)), (by first | rfl | (simp; done) | (simp [*]; done)), H', ⟨by have := HK1.out; have := HJ93.out; first | omega | exact Nat.le_refl _⟩, ⟨by (with_reducible repeat (first | apply Kd.R_alloc | apply Kd.R_drewN | apply Kd.R_drew)); exact HO_317002.out⟩, ⟨by (with_reducible repeat (first | apply Kd.R_alloc | apply Kd.R_drewN | apply Kd.R_drew)); exact HO_317003.out⟩, ⟨by (with_reducible repeat (first | apply Kd.R_alloc | apply Kd.R_drewN | apply Kd.R_drew)); exact HO_317004.out⟩, ⟨by (with_reducible repeat (first | refine blk_drewN ?_ _ | refine blk_drew ?_ | refine blk_alloc ?_ _)); exact BK306.out⟩, ⟨by (with_reducible repeat (first | refine blk_drewN ?_ _ | refine blk_drew ?_ | refine blk_alloc ?_ _)); exact BK307.out⟩, ⟨by (with_reducible repeat (first | refine blk_drewN ?_ _ | refine blk_drew ?_ | refine blk_alloc ?_ _)); exact BK308.out⟩, ⟨by (with_reducible repeat (first | refine blk_drewN ?_ _ | refine blk_drew ?_ | refine blk_alloc ?_ _)); exact BK316.out⟩, ⟨by repeat (first | (with_reducible first | exact HB.out | apply below_alloc | apply pw_below_drewN | apply below_drew1 | refine below_set ?_ GE306.out | refine below_set ?_ GE307.out | refine below_set ?_ GE308.out | refine below_set ?_ GE316.out) | exact HB.out)⟩⟩
            case rest =>
             clear HC131
             (try clear c1); (try clear c2); (try clear p2); (try clear c3); (try clear p3); (try clear q3); (try clear hx3); (try clear c4); (try clear c4b0); (try clear c4b1); (try clear c5); (try clear c6); (try clear p6); (try clear c7); (try clear c8); (try clear c9); (try clear c10); (try clear c11); (try clear c12); (try clear c13); (try clear c19); (try clear c24); (try clear c30); (try clear c30b0); (try clear c31); (try clear c31b0); (try clear p31); (try clear q31); (try clear hx31); (try clear c32); (try clear c33); (try clear c34); (try clear c35); (try clear c41); (try clear c42); (try clear c42b0); (try clear c42b1); (try clear c43); (try clear c44); (try clear c45); (try clear c47); (try clear c48); (try clear c50); (try clear c57); (try clear c57b0); (try clear c57b1); (try clear c58); (try clear c59); (try clear c59b0); (try clear c59b1); (try clear c60); (try clear c61); (try clear c62); (try clear c64); (try clear p64); (try clear c65); (try clear c67); (try clear c77); (try clear c78); (try clear c79); (try clear c81); (try clear c82); (try clear c84); (try clear c95); (try clear c96); (try clear c97); (try clear c99); (try clear c100); (try clear c102); (try clear c108); (try clear c108b0); (try clear c108b1); (try clear c109); (try clear c110); (try clear c111); (try clear c112); (try clear c114); (try clear c115); (try clear c117); (try clear c117b0); (try clear c117b1); (try clear c118); (try clear c119); (try clear c120); (try clear c121); (try clear c123); (try clear c124); (try clear c129); (try clear c132); (try clear c132b0); (try clear c132b1); (try clear hcz101_0); (try clear hcz101_1); (try clear hcz101_2); (try clear hcz101_3); (try clear hcz101_4); (try clear hcz103_0); (try clear hcz103_1); (try clear hcz103_2); (try clear hcz103_3); (try clear hcz106_0); (try clear hcz106_1); (try clear hcz106_2); (try clear hcz106_3); (try clear hcz106_4); (try clear hcz107_0); (try clear hcz107_1); (try clear hcz107_2); (try clear hcz107_3); (try clear hcz113_0); (try clear hcz113_1); (try clear hcz113_2); (try clear hcz113_3); (try clear hcz113_4); (try clear hcz116_0); (try clear hcz116_1); (try clear hcz116_2); (try clear hcz116_3); (try clear hcz116_4); (try clear hcz122_0); (try clear hcz122_1); (try clear hcz122_2); (try clear hcz122_3); (try clear hcz122_4); (try clear hcz125_0); (try clear hcz125_1); (try clear hcz125_2); (try clear hcz125_3); (try clear hcz128_0); (try clear hcz128_1); (try clear hcz128_2); (try clear hcz128_3); (try clear hcz128_4); (try clear hcz12_0); (try clear hcz12_1); (try clear hcz12_2); (try clear hcz12_3); (try clear hcz12_4); (try clear hcz130_0); (try clear hcz130_1); (try clear hcz130_2); (try clear hcz130_3); (try clear hcz130_4); (try clear hcz14_0); (try clear hcz14_1); (try clear hcz14_2); (try clear hcz14_3); (try clear hcz36_0); (try clear hcz36_1); (try clear hcz36_2); (try clear hcz36_3); (try clear hcz36_4); (try clear hcz46_0); (try clear hcz46_1); (try clear hcz46_2); (try clear hcz46_3); (try clear hcz46_4)
             (try clear hcz49_0); (try clear hcz49_1); (try clear hcz49_2); (try clear hcz49_3); (try clear hcz49_4); (try clear hcz51_0); (try clear hcz51_1); (try clear hcz51_2); (try clear hcz51_3); (try clear hcz54_0); (try clear hcz54_1); (try clear hcz54_2); (try clear hcz54_3); (try clear hcz54_4); (try clear hcz55_0); (try clear hcz55_1); (try clear hcz55_2); (try clear hcz55_3); (try clear hcz56_0); (try clear hcz56_1); (try clear hcz56_2); (try clear hcz56_3); (try clear hcz56_4); (try clear hcz63_0); (try clear hcz63_1); (try clear hcz63_2); (try clear hcz63_3); (try clear hcz63_4); (try clear hcz66_0); (try clear hcz66_1); (try clear hcz66_2); (try clear hcz66_3); (try clear hcz66_4); (try clear hcz68_0); (try clear hcz68_1); (try clear hcz68_2); (try clear hcz68_3); (try clear hcz71_0); (try clear hcz71_1); (try clear hcz71_2); (try clear hcz71_3); (try clear hcz71_4); (try clear hcz72_0); (try clear hcz72_1); (try clear hcz72_2); (try clear hcz72_3); (try clear hcz75_0); (try clear hcz75_1); (try clear hcz75_2); (try clear hcz75_3); (try clear hcz75_4); (try clear hcz76_0); (try clear hcz76_1); (try clear hcz76_2); (try clear hcz76_3); (try clear hcz76_4); (try clear hcz80_0); (try clear hcz80_1); (try clear hcz80_2); (try clear hcz80_3); (try clear hcz80_4); (try clear hcz83_0); (try clear hcz83_1); (try clear hcz83_2); (try clear hcz83_3); (try clear hcz83_4); (try clear hcz85_0); (try clear hcz85_1); (try clear hcz85_2); (try clear hcz85_3); (try clear hcz88_0); (try clear hcz88_1); (try clear hcz88_2); (try clear hcz88_3); (try clear hcz88_4); (try clear hcz89_0); (try clear hcz89_1); (try clear hcz89_2); (try clear hcz89_3); (try clear hcz92_0); (try clear hcz92_1); (try clear hcz92_2); (try clear hcz92_3); (try clear hcz92_4); (try clear hcz93_0); (try clear hcz93_1); (try clear hcz93_2); (try clear hcz93_3); (try clear hcz93_4); (try clear hcz98_0); (try clear hcz98_1); (try clear hcz98_2); (try clear hcz98_3); (try clear hcz98_4); (try clear hfz101_0); (try clear hfz101_1); (try clear hfz101_2); (try clear hfz101_3); (try clear hfz101_4); (try clear hfz103_0); (try clear hfz103_1); (try clear hfz103_2); (try clear hfz103_3); (try clear hfz106_0); (try clear hfz106_1); (try clear hfz106_2); (try clear hfz106_3); (try clear hfz106_4); (try clear hfz107_0); (try clear hfz107_1); (try clear hfz107_2); (try clear hfz107_3); (try clear hfz113_0); (try clear hfz113_1); (try clear hfz113_2); (try clear hfz113_3); (try clear hfz113_4); (try clear hfz116_0); (try clear hfz116_1); (try clear hfz116_2); (try clear hfz116_3); (try clear hfz116_4); (try clear hfz122_0); (try clear hfz122_1); (try clear hfz122_2); (try clear hfz122_3); (try clear hfz122_4); (try clear hfz125_0); (try clear hfz125_1); (try clear hfz125_2); (try clear hfz125_3); (try clear hfz128_0); (try clear hfz128_1); (try clear hfz128_2); (try clear hfz128_3); (try clear hfz128_4); (try clear hfz12_0); (try clear hfz12_1); (try clear hfz12_2); (try clear hfz12_3); (try clear hfz12_4)
             (try clear hfz130_0); (try clear hfz130_1); (try clear hfz130_2); (try clear hfz130_3); (try clear hfz130_4); (try clear hfz14_0); (try clear hfz14_1); (try clear hfz14_2); (try clear hfz14_3); (try clear hfz36_0); (try clear hfz36_1); (try clear hfz36_2); (try clear hfz36_3); (try clear hfz36_4); (try clear hfz46_0); (try clear hfz46_1); (try clear hfz46_2); (try clear hfz46_3); (try clear hfz46_4); (try clear hfz49_0); (try clear hfz49_1); (try clear hfz49_2); (try clear hfz49_3); (try clear hfz49_4); (try clear hfz51_0); (try clear hfz51_1); (try clear hfz51_2); (try clear hfz51_3); (try clear hfz54_0); (try clear hfz54_1); (try clear hfz54_2); (try clear hfz54_3); (try clear hfz54_4); (try clear hfz55_0); (try clear hfz55_1); (try clear hfz55_2); (try clear hfz55_3); (try clear hfz56_0); (try clear hfz56_1); (try clear hfz56_2); (try clear hfz56_3); (try clear hfz56_4); (try clear hfz63_0); (try clear hfz63_1); (try clear hfz63_2); (try clear hfz63_3); (try clear hfz63_4); (try clear hfz66_0); (try clear hfz66_1); (try clear hfz66_2); (try clear hfz66_3); (try clear hfz66_4); (try clear hfz68_0); (try clear hfz68_1); (try clear hfz68_2); (try clear hfz68_3); (try clear hfz71_0); (try clear hfz71_1); (try clear hfz71_2); (try clear hfz71_3); (try clear hfz71_4); (try clear hfz72_0); (try clear hfz72_1); (try clear hfz72_2); (try clear hfz72_3); (try clear hfz75_0); (try clear hfz75_1); (try clear hfz75_2); (try clear hfz75_3); (try clear hfz75_4); (try clear hfz76_0); (try clear hfz76_1); (try clear hfz76_2); (try clear hfz76_3); (try clear hfz76_4); (try clear hfz80_0); (try clear hfz80_1); (try clear hfz80_2); (try clear hfz80_3); (try clear hfz80_4); (try clear hfz83_0); (try clear hfz83_1); (try clear hfz83_2); (try clear hfz83_3); (try clear hfz83_4); (try clear hfz85_0); (try clear hfz85_1); (try clear hfz85_2); (try clear hfz85_3); (try clear hfz88_0); (try clear hfz88_1); (try clear hfz88_2); (try clear hfz88_3); (try clear hfz88_4); (try clear hfz89_0); (try clear hfz89_1); (try clear hfz89_2); (try clear hfz89_3); (try clear hfz92_0); (try clear hfz92_1); (try clear hfz92_2); (try clear hfz92_3); (try clear hfz92_4); (try clear hfz93_0); (try clear hfz93_1); (try clear hfz93_2); (try clear hfz93_3); (try clear hfz93_4); (try clear hfz98_0); (try clear hfz98_1); (try clear hfz98_2); (try clear hfz98_3); (try clear hfz98_4); (try clear hx317_0); (try clear hx317_1); (try clear hx317_2); (try clear hx317_3); (try clear p2); (try clear p3); (try clear p31); (try clear p317); (try clear p6); (try clear p64); (try clear q3); (try clear q31); (try clear q317)
             obtain ⟨kq, x85_130, rfl, HA, HJ130, HO_317002, HO_317003, HO_317004, BK306, BK307, BK308, BK316, HB⟩ := hcut
             cases kq with
             | zero => exact absurd HA.out (by simp [examboardref15_Apply.j2])
             | succ kj130 =>
              have H := HA.out
              clear HA
              simp only [examboardref15_Apply.j2] at H
              by_cases c133 : x85_130 = true
              ·
               subst c133
               have H1 : (some (5, a0_1, t310, t313, y321, 0)) = some (r1, r2, r3, r4, r5, r6) := by rw [if_pos rfl] at H; exact H
               clear H
               have H := H1
               clear H1
               simp only [Option.some.injEq, Prod.mk.injEq] at H
               obtain ⟨rfl, rfl, rfl, rfl, rfl, rfl⟩ := H
               have hnb134 := NB316_306.out
               have hnc134 := NB306_316.out
               have hnb135 := NB316_307.out
               have hnc135 := NB307_316.out
               have hnb136 := NB316_308.out
               have hnc136 := NB308_316.out
               have hcz137_0 : wc.cell? ⟨gb316, 0, none⟩ = some (.int .i64 a0_0) := (blk_cell BK316.out 0).trans rfl
               have hcz137_1 : wc.cell? ⟨gb316, 1, none⟩ = some (.int .i64 a0_1) := (blk_cell BK316.out 1).trans rfl
               have hcz137_2 : wc.cell? ⟨gb316, 2, none⟩ = some (.slice Ao29 t310.length co29) := (blk_cell BK316.out 2).trans rfl
               have hcz137_3 : wc.cell? ⟨gb316, 3, none⟩ = some (.slice Ao28 t313.length co28) := (blk_cell BK316.out 3).trans rfl
               have hcz137_4 : wc.cell? ⟨gb316, 4, none⟩ = some (.slice Ao105 y321.length co105) := (blk_cell BK316.out 4).trans rfl
               have hfz137_0 := blk_frozen BK316.out 0
               have hfz137_1 := blk_frozen BK316.out 1
               have hfz137_2 := blk_frozen BK316.out 2
               have hfz137_3 := blk_frozen BK316.out 3
               have hfz137_4 := blk_frozen BK316.out 4
               have hnb138 := NB308_306.out
               have hnc138 := NB306_308.out
               have hnb139 := NB308_307.out
               have hnc139 := NB307_308.out
               have hcz140_0 : wc.cell? ⟨gb308, 0, none⟩ = some (.int .i64 0) := (blk_cell BK308.out 0).trans rfl
               have hcz140_1 : wc.cell? ⟨gb308, 1, none⟩ = some (.int .i64 0) := (blk_cell BK308.out 1).trans rfl
               have hcz140_2 : wc.cell? ⟨gb308, 2, none⟩ = some (.slice none 0 0) := (blk_cell BK308.out 2).trans rfl
               have hcz140_3 : wc.cell? ⟨gb308, 3, none⟩ = some (.slice none 0 0) := (blk_cell BK308.out 3).trans rfl
               have hcz140_4 : wc.cell? ⟨gb308, 4, none⟩ = some (.slice none 0 0) := (blk_cell BK308.out 4).trans rfl
               have hfz140_0 := blk_frozen BK308.out 0
               have hfz140_1 := blk_frozen BK308.out 1
               have hfz140_2 := blk_frozen BK308.out 2
               have hfz140_3 := blk_frozen BK308.out 3
               have hfz140_4 := blk_frozen BK308.out 4
               go_wp2
               refine bodyPost_ret (results_ct rfl _ _ gb308 25 #[.int .i64 5, .int .i64 a0_1, .slice Ao29 t310.length co29, .slice Ao28 t313.length co28, .slice Ao105 y321.length co105] (0, 0) _ rfl (by (with_reducible repeat (first | refine blk_drewN ?_ _ | refine blk_drew ?_ | refine blk_alloc ?_ _)); refine blk_put (cs := #[.int .i64 5, .int .i64 a0_1, .slice Ao29 t310.length co29, .slice Ao28 t313.length co28, .slice none 0 0]) ?_ 4 _ rfl; (with_reducible repeat (first | refine blk_drewN ?_ _ | refine blk_drew ?_ | refine blk_alloc ?_ _)); refine blk_put (cs := #[.int .i64 5, .int .i64 a0_1, .slice Ao29 t310.length co29, .slice none 0 0, .slice none 0 0]) ?_ 3 _ rfl; (with_reducible repeat (first | refine blk_drewN ?_ _ | refine blk_drew ?_ | refine blk_alloc ?_ _)); refine blk_put (cs := #[.int .i64 5, .int .i64 a0_1, .slice none 0 0, .slice none 0 0, .slice none 0 0]) ?_ 2 _ rfl; (with_reducible repeat (first | refine blk_drewN ?_ _ | refine blk_drew ?_ | refine blk_alloc ?_ _)); refine blk_put (cs := #[.int .i64 5, .int .i64 0, .slice none 0 0, .slice none 0 0, .slice none 0 0]) ?_ 1 _ rfl; (with_reducible repeat (first | refine blk_drewN ?_ _ | refine blk_drew ?_ | refine blk_alloc ?_ _)); refine blk_put (cs := #[.int .i64 0, .int .i64 0, .slice none 0 0, .slice none 0 0, .slice none 0 0]) ?_ 0 _ rfl; (with_reducible repeat (first | refine blk_drewN ?_ _ | refine blk_drew ?_ | refine blk_alloc ?_ _)); refine blk_far ?_ NB308_316.out _; (with_reducible repeat (first | refine blk_drewN ?_ _ | refine blk_drew ?_ | refine blk_alloc ?_ _)); exact BK308.out) Try.underlying25 rfl (by kernel_rfl)) rfl ?_
               exact ⟨_, _, _, by first | rfl | (simp [errW_none, errW_some] <;> rfl) | (simp [*, errW_none, errW_some] <;> rfl), by (with_reducible repeat (first | apply Kd.R_alloc | apply Kd.R_drewN | apply Kd.R_drew)); exact Kd.R_mono (Kd.R_far (p := ⟨gb308, 4, none⟩) (Kd.R_far (p := ⟨gb308, 3, none⟩) (Kd.R_far (p := ⟨gb308, 2, none⟩) (Kd.R_far (p := ⟨gb308, 1, none⟩) (Kd.R_far (p := ⟨gb308, 0, none⟩) (Kd.R_far (p := ⟨gb316, 0, none⟩) (Kd.R_types (Kd.R_types HO_317002.out BK316.out (by decide)) BK308.out (by decide)) (fun _ hk => hk.1.2) (.int .i64 5)) (fun _ hk => hk.2) (.int .i64 5)) (fun _ hk => hk.2) (.int .i64 a0_1)) (fun _ hk => hk.2) (.slice Ao29 t310.length co29)) (fun _ hk => hk.2) (.slice Ao28 t313.length co28)) (fun _ hk => hk.2) (.slice Ao105 y321.length co105)) (fun _ hk => hk.1.1), by (with_reducible repeat (first | apply Kd.R_alloc | apply Kd.R_drewN | apply Kd.R_drew)); exact Kd.R_mono (Kd.R_far (p := ⟨gb308, 4, none⟩) (Kd.R_far (p := ⟨gb308, 3, none⟩) (Kd.R_far (p := ⟨gb308, 2, none⟩) (Kd.R_far (p := ⟨gb308, 1, none⟩) (Kd.R_far (p := ⟨gb308, 0, none⟩) (Kd.R_far (p := ⟨gb316, 0, none⟩) (Kd.R_types (Kd.R_types HO_317003.out BK316.out (by decide)) BK308.out (by decide)) (fun _ hk => hk.1.2) (.int .i64 5)) (fun _ hk => hk.2) (.int .i64 5)) (fun _ hk => hk.2) (.int .i64 a0_1)) (fun _ hk => hk.2) (.slice Ao29 t310.length co29)) (fun _ hk => hk.2) (.slice Ao28 t313.length co28)) (fun _ hk => hk.2) (.slice Ao105 y321.length co105)) (fun _ hk => hk.1.1), by (with_reducible repeat (first | apply Kd.R_alloc | apply Kd.R_drewN | apply Kd.R_drew)); exact Kd.R_mono (Kd.R_far (p := ⟨gb308, 4, none⟩) (Kd.R_far (p := ⟨gb308, 3, none⟩) (Kd.R_far (p := ⟨gb308, 2, none⟩) (Kd.R_far (p := ⟨gb308, 1, none⟩) (Kd.R_far (p := ⟨gb308, 0, none⟩) (Kd.R_far (p := ⟨gb316, 0, none⟩) (Kd.R_types (Kd.R_types HO_317004.out BK316.out (by decide)) BK308.out (by decide)) (fun _ hk => hk.1.2) (.int .i64 5)) (fun _ hk => hk.2) (.int .i64 5)) (fun _ hk => hk.2) (.int .i64 a0_1)) (fun _ hk => hk.2) (.slice Ao29 t310.length co29)) (fun _ hk => hk.2) (.slice Ao28 t313.length co28)) (fun _ hk => hk.2) (.slice Ao105 y321.length co105)) (fun _ hk => trivial), by repeat (first | (with_reducible first | exact HB.out | apply below_alloc | apply pw_below_drewN | apply below_drew1 | refine below_set ?_ GE306.out | refine below_set ?_ GE307.out | refine below_set ?_ GE308.out | refine below_set ?_ GE316.out) | exact HB.out)⟩
              ·
               replace c133 := Bool.eq_false_iff.mpr c133
               subst c133
               have H1 : (if a1_0 = 6 then (some (6, a0_1, t310, t313, y321, 0)) else (if a1_0 = 8 then (some (7, a0_1, t310, t313, y321, 0)) else (some (a0_0, a0_1, t310, t313, y321, 0)))) = some (r1, r2, r3, r4, r5, r6) := by rw [if_neg (show ¬ (false = true) by decide)] at H; exact H
               clear H
               have H := H1
               clear H1
               by_cases c141 : a1_0 = 6
               ·
                rw [if_pos c141] at H
                have c141b0 : (a1_0 == 6) = true := beq_iff_eq.mpr c141
                have c141b1 : (a1_0 != 6) = false := bne_eq_false_iff_eq.mpr c141
                clear c141
                simp only [Option.some.injEq, Prod.mk.injEq] at H
                obtain ⟨rfl, rfl, rfl, rfl, rfl, rfl⟩ := H
                have hnb142 := NB316_306.out
                have hnc142 := NB306_316.out
                have hnb143 := NB316_307.out
                have hnc143 := NB307_316.out
                have hnb144 := NB316_308.out
                have hnc144 := NB308_316.out
                have hcz145_0 : wc.cell? ⟨gb316, 0, none⟩ = some (.int .i64 a0_0) := (blk_cell BK316.out 0).trans rfl
                have hcz145_1 : wc.cell? ⟨gb316, 1, none⟩ = some (.int .i64 a0_1) := (blk_cell BK316.out 1).trans rfl
                have hcz145_2 : wc.cell? ⟨gb316, 2, none⟩ = some (.slice Ao29 t310.length co29) := (blk_cell BK316.out 2).trans rfl
                have hcz145_3 : wc.cell? ⟨gb316, 3, none⟩ = some (.slice Ao28 t313.length co28) := (blk_cell BK316.out 3).trans rfl
                have hcz145_4 : wc.cell? ⟨gb316, 4, none⟩ = some (.slice Ao105 y321.length co105) := (blk_cell BK316.out 4).trans rfl
                have hfz145_0 := blk_frozen BK316.out 0
                have hfz145_1 := blk_frozen BK316.out 1
                have hfz145_2 := blk_frozen BK316.out 2
                have hfz145_3 := blk_frozen BK316.out 3
                have hfz145_4 := blk_frozen BK316.out 4
                have hnb146 := NB308_306.out
                have hnc146 := NB306_308.out
                have hnb147 := NB308_307.out
                have hnc147 := NB307_308.out
                have hcz148_0 : wc.cell? ⟨gb308, 0, none⟩ = some (.int .i64 0) := (blk_cell BK308.out 0).trans rfl
                have hcz148_1 : wc.cell? ⟨gb308, 1, none⟩ = some (.int .i64 0) := (blk_cell BK308.out 1).trans rfl
                have hcz148_2 : wc.cell? ⟨gb308, 2, none⟩ = some (.slice none 0 0) := (blk_cell BK308.out 2).trans rfl
                have hcz148_3 : wc.cell? ⟨gb308, 3, none⟩ = some (.slice none 0 0) := (blk_cell BK308.out 3).trans rfl
                have hcz148_4 : wc.cell? ⟨gb308, 4, none⟩ = some (.slice none 0 0) := (blk_cell BK308.out 4).trans rfl
                have hfz148_0 := blk_frozen BK308.out 0
                have hfz148_1 := blk_frozen BK308.out 1
                have hfz148_2 := blk_frozen BK308.out 2
                have hfz148_3 := blk_frozen BK308.out 3
                have hfz148_4 := blk_frozen BK308.out 4
                go_wp2
                refine bodyPost_ret (results_ct rfl _ _ gb308 25 #[.int .i64 6, .int .i64 a0_1, .slice Ao29 t310.length co29, .slice Ao28 t313.length co28, .slice Ao105 y321.length co105] (0, 0) _ rfl (by (with_reducible repeat (first | refine blk_drewN ?_ _ | refine blk_drew ?_ | refine blk_alloc ?_ _)); refine blk_put (cs := #[.int .i64 6, .int .i64 a0_1, .slice Ao29 t310.length co29, .slice Ao28 t313.length co28, .slice none 0 0]) ?_ 4 _ rfl; (with_reducible repeat (first | refine blk_drewN ?_ _ | refine blk_drew ?_ | refine blk_alloc ?_ _)); refine blk_put (cs := #[.int .i64 6, .int .i64 a0_1, .slice Ao29 t310.length co29, .slice none 0 0, .slice none 0 0]) ?_ 3 _ rfl; (with_reducible repeat (first | refine blk_drewN ?_ _ | refine blk_drew ?_ | refine blk_alloc ?_ _)); refine blk_put (cs := #[.int .i64 6, .int .i64 a0_1, .slice none 0 0, .slice none 0 0, .slice none 0 0]) ?_ 2 _ rfl; (with_reducible repeat (first | refine blk_drewN ?_ _ | refine blk_drew ?_ | refine blk_alloc ?_ _)); refine blk_put (cs := #[.int .i64 6, .int .i64 0, .slice none 0 0, .slice none 0 0, .slice none 0 0]) ?_ 1 _ rfl; (with_reducible repeat (first | refine blk_drewN ?_ _ | refine blk_drew ?_ | refine blk_alloc ?_ _)); refine blk_put (cs := #[.int .i64 0, .int .i64 0, .slice none 0 0, .slice none 0 0, .slice none 0 0]) ?_ 0 _ rfl; (with_reducible repeat (first | refine blk_drewN ?_ _ | refine blk_drew ?_ | refine blk_alloc ?_ _)); refine blk_far ?_ NB308_316.out _; (with_reducible repeat (first | refine blk_drewN ?_ _ | refine blk_drew ?_ | refine blk_alloc ?_ _)); exact BK308.out) Try.underlying25 rfl (by kernel_rfl)) rfl ?_
                exact ⟨_, _, _, by first | rfl | (simp [errW_none, errW_some] <;> rfl) | (simp [*, errW_none, errW_some] <;> rfl), by (with_reducible repeat (first | apply Kd.R_alloc | apply Kd.R_drewN | apply Kd.R_drew)); exact Kd.R_mono (Kd.R_far (p := ⟨gb308, 4, none⟩) (Kd.R_far (p := ⟨gb308, 3, none⟩) (Kd.R_far (p := ⟨gb308, 2, none⟩) (Kd.R_far (p := ⟨gb308, 1, none⟩) (Kd.R_far (p := ⟨gb308, 0, none⟩) (Kd.R_far (p := ⟨gb316, 0, none⟩) (Kd.R_types (Kd.R_types HO_317002.out BK316.out (by decide)) BK308.out (by decide)) (fun _ hk => hk.1.2) (.int .i64 6)) (fun _ hk => hk.2) (.int .i64 6)) (fun _ hk => hk.2) (.int .i64 a0_1)) (fun _ hk => hk.2) (.slice Ao29 t310.length co29)) (fun _ hk => hk.2) (.slice Ao28 t313.length co28)) (fun _ hk => hk.2) (.slice Ao105 y321.length co105)) (fun _ hk => hk.1.1), by (with_reducible repeat (first | apply Kd.R_alloc | apply Kd.R_drewN | apply Kd.R_drew)); exact Kd.R_mono (Kd.R_far (p := ⟨gb308, 4, none⟩) (Kd.R_far (p := ⟨gb308, 3, none⟩) (Kd.R_far (p := ⟨gb308, 2, none⟩) (Kd.R_far (p := ⟨gb308, 1, none⟩) (Kd.R_far (p := ⟨gb308, 0, none⟩) (Kd.R_far (p := ⟨gb316, 0, none⟩) (Kd.R_types (Kd.R_types HO_317003.out BK316.out (by decide)) BK308.out (by decide)) (fun _ hk => hk.1.2) (.int .i64 6)) (fun _ hk => hk.2) (.int .i64 6)) (fun _ hk => hk.2) (.int .i64 a0_1)) (fun _ hk => hk.2) (.slice Ao29 t310.length co29)) (fun _ hk => hk.2) (.slice Ao28 t313.length co28)) (fun _ hk => hk.2) (.slice Ao105 y321.length co105)) (fun _ hk => hk.1.1), by (with_reducible repeat (first | apply Kd.R_alloc | apply Kd.R_drewN | apply Kd.R_drew)); exact Kd.R_mono (Kd.R_far (p := ⟨gb308, 4, none⟩) (Kd.R_far (p := ⟨gb308, 3, none⟩) (Kd.R_far (p := ⟨gb308, 2, none⟩) (Kd.R_far (p := ⟨gb308, 1, none⟩) (Kd.R_far (p := ⟨gb308, 0, none⟩) (Kd.R_far (p := ⟨gb316, 0, none⟩) (Kd.R_types (Kd.R_types HO_317004.out BK316.out (by decide)) BK308.out (by decide)) (fun _ hk => hk.1.2) (.int .i64 6)) (fun _ hk => hk.2) (.int .i64 6)) (fun _ hk => hk.2) (.int .i64 a0_1)) (fun _ hk => hk.2) (.slice Ao29 t310.length co29)) (fun _ hk => hk.2) (.slice Ao28 t313.length co28)) (fun _ hk => hk.2) (.slice Ao105 y321.length co105)) (fun _ hk => trivial), by repeat (first | (with_reducible first | exact HB.out | apply below_alloc | apply pw_below_drewN | apply below_drew1 | refine below_set ?_ GE306.out | refine below_set ?_ GE307.out | refine below_set ?_ GE308.out | refine below_set ?_ GE316.out) | exact HB.out)⟩
               ·
                rw [if_neg c141] at H
                have c141b0 : (a1_0 == 6) = false := beq_eq_false_iff_ne.mpr c141
                have c141b1 : (a1_0 != 6) = true := bne_iff_ne.mpr c141
                by_cases c149 : a1_0 = 8
                ·
                 rw [if_pos c149] at H
                 have c149b0 : (a1_0 == 8) = true := beq_iff_eq.mpr c149
                 have c149b1 : (a1_0 != 8) = false := bne_eq_false_iff_eq.mpr c149
                 clear c149
                 simp only [Option.some.injEq, Prod.mk.injEq] at H
                 obtain ⟨rfl, rfl, rfl, rfl, rfl, rfl⟩ := H
                 have hnb150 := NB316_306.out
                 have hnc150 := NB306_316.out
                 have hnb151 := NB316_307.out
                 have hnc151 := NB307_316.out
                 have hnb152 := NB316_308.out
                 have hnc152 := NB308_316.out
                 have hcz153_0 : wc.cell? ⟨gb316, 0, none⟩ = some (.int .i64 a0_0) := (blk_cell BK316.out 0).trans rfl
                 have hcz153_1 : wc.cell? ⟨gb316, 1, none⟩ = some (.int .i64 a0_1) := (blk_cell BK316.out 1).trans rfl
                 have hcz153_2 : wc.cell? ⟨gb316, 2, none⟩ = some (.slice Ao29 t310.length co29) := (blk_cell BK316.out 2).trans rfl
                 have hcz153_3 : wc.cell? ⟨gb316, 3, none⟩ = some (.slice Ao28 t313.length co28) := (blk_cell BK316.out 3).trans rfl
                 have hcz153_4 : wc.cell? ⟨gb316, 4, none⟩ = some (.slice Ao105 y321.length co105) := (blk_cell BK316.out 4).trans rfl
                 have hfz153_0 := blk_frozen BK316.out 0
                 have hfz153_1 := blk_frozen BK316.out 1
                 have hfz153_2 := blk_frozen BK316.out 2
                 have hfz153_3 := blk_frozen BK316.out 3
                 have hfz153_4 := blk_frozen BK316.out 4
                 have hnb154 := NB308_306.out
                 have hnc154 := NB306_308.out
                 have hnb155 := NB308_307.out
                 have hnc155 := NB307_308.out
                 have hcz156_0 : wc.cell? ⟨gb308, 0, none⟩ = some (.int .i64 0) := (blk_cell BK308.out 0).trans rfl
                 have hcz156_1 : wc.cell? ⟨gb308, 1, none⟩ = some (.int .i64 0) := (blk_cell BK308.out 1).trans rfl
                 have hcz156_2 : wc.cell? ⟨gb308, 2, none⟩ = some (.slice none 0 0) := (blk_cell BK308.out 2).trans rfl
                 have hcz156_3 : wc.cell? ⟨gb308, 3, none⟩ = some (.slice none 0 0) := (blk_cell BK308.out 3).trans rfl
                 have hcz156_4 : wc.cell? ⟨gb308, 4, none⟩ = some (.slice none 0 0) := (blk_cell BK308.out 4).trans rfl
                 have hfz156_0 := blk_frozen BK308.out 0
                 have hfz156_1 := blk_frozen BK308.out 1
                 have hfz156_2 := blk_frozen BK308.out 2
                 have hfz156_3 := blk_frozen BK308.out 3
                 have hfz156_4 := blk_frozen BK308.out 4
                 go_wp2
                 refine bodyPost_ret (results_ct rfl _ _ gb308 25 #[.int .i64 7, .int .i64 a0_1, .slice Ao29 t310.length co29, .slice Ao28 t313.length co28, .slice Ao105 y321.length co105] (0, 0) _ rfl (by (with_reducible repeat (first | refine blk_drewN ?_ _ | refine blk_drew ?_ | refine blk_alloc ?_ _)); refine blk_put (cs := #[.int .i64 7, .int .i64 a0_1, .slice Ao29 t310.length co29, .slice Ao28 t313.length co28, .slice none 0 0]) ?_ 4 _ rfl; (with_reducible repeat (first | refine blk_drewN ?_ _ | refine blk_drew ?_ | refine blk_alloc ?_ _)); refine blk_put (cs := #[.int .i64 7, .int .i64 a0_1, .slice Ao29 t310.length co29, .slice none 0 0, .slice none 0 0]) ?_ 3 _ rfl; (with_reducible repeat (first | refine blk_drewN ?_ _ | refine blk_drew ?_ | refine blk_alloc ?_ _)); refine blk_put (cs := #[.int .i64 7, .int .i64 a0_1, .slice none 0 0, .slice none 0 0, .slice none 0 0]) ?_ 2 _ rfl; (with_reducible repeat (first | refine blk_drewN ?_ _ | refine blk_drew ?_ | refine blk_alloc ?_ _)); refine blk_put (cs := #[.int .i64 7, .int .i64 0, .slice none 0 0, .slice none 0 0, .slice none 0 0]) ?_ 1 _ rfl; (with_reducible repeat (first | refine blk_drewN ?_ _ | refine blk_drew ?_ | refine blk_alloc ?_ _)); refine blk_put (cs := #[.int .i64 0, .int .i64 0, .slice none 0 0, .slice none 0 0, .slice none 0 0]) ?_ 0 _ rfl; (with_reducible repeat (first | refine blk_drewN ?_ _ | refine blk_drew ?_ | refine blk_alloc ?_ _)); refine blk_far ?_ NB308_316.out _; (with_reducible repeat (first | refine blk_drewN ?_ _ | refine blk_drew ?_ | refine blk_alloc ?_ _)); exact BK308.out) Try.underlying25 rfl (by kernel_rfl)) rfl ?_
                 exact ⟨_, _, _, by first | rfl | (simp [errW_none, errW_some] <;> rfl) | (simp [*, errW_none, errW_some] <;> rfl), by (with_reducible repeat (first | apply Kd.R_alloc | apply Kd.R_drewN | apply Kd.R_drew)); exact Kd.R_mono (Kd.R_far (p := ⟨gb308, 4, none⟩) (Kd.R_far (p := ⟨gb308, 3, none⟩) (Kd.R_far (p := ⟨gb308, 2, none⟩) (Kd.R_far (p := ⟨gb308, 1, none⟩) (Kd.R_far (p := ⟨gb308, 0, none⟩) (Kd.R_far (p := ⟨gb316, 0, none⟩) (Kd.R_types (Kd.R_types HO_317002.out BK316.out (by decide)) BK308.out (by decide)) (fun _ hk => hk.1.2) (.int .i64 7)) (fun _ hk => hk.2) (.int .i64 7)) (fun _ hk => hk.2) (.int .i64 a0_1)) (fun _ hk => hk.2) (.slice Ao29 t310.length co29)) (fun _ hk => hk.2) (.slice Ao28 t313.length co28)) (fun _ hk => hk.2) (.slice Ao105 y321.length co105)) (fun _ hk => hk.1.1), by (with_reducible repeat (first | apply Kd.R_alloc | apply Kd.R_drewN | apply Kd.R_drew)); exact Kd.R_mono (Kd.R_far (p := ⟨gb308, 4, none⟩) (Kd.R_far (p := ⟨gb308, 3, none⟩) (Kd.R_far (p := ⟨gb308, 2, none⟩) (Kd.R_far (p := ⟨gb308, 1, none⟩) (Kd.R_far (p := ⟨gb308, 0, none⟩) (Kd.R_far (p := ⟨gb316, 0, none⟩) (Kd.R_types (Kd.R_types HO_317003.out BK316.out (by decide)) BK308.out (by decide)) (fun _ hk => hk.1.2) (.int .i64 7)) (fun _ hk => hk.2) (.int .i64 7)) (fun _ hk => hk.2) (.int .i64 a0_1)) (fun _ hk => hk.2) (.slice Ao29 t310.length co29)) (fun _ hk => hk.2) (.slice Ao28 t313.length co28)) (fun _ hk => hk.2) (.slice Ao105 y321.length co105)) (fun _ hk => hk.1.1), by (with_reducible repeat (first | apply Kd.R_alloc | apply Kd.R_drewN | apply Kd.R_drew)); exact Kd.R_mono (Kd.R_far (p := ⟨gb308, 4, none⟩) (Kd.R_far (p := ⟨gb308, 3, none⟩) (Kd.R_far (p := ⟨gb308, 2, none⟩) (Kd.R_far (p := ⟨gb308, 1, none⟩) (Kd.R_far (p := ⟨gb308, 0, none⟩) (Kd.R_far (p := ⟨gb316, 0, none⟩) (Kd.R_types (Kd.R_types HO_317004.out BK316.out (by decide)) BK308.out (by decide)) (fun _ hk => hk.1.2) (.int .i64 7)) (fun _ hk => hk.2) (.int .i64 7)) (fun _ hk => hk.2) (.int .i64 a0_1)) (fun _ hk => hk.2) (.slice Ao29 t310.length co29)) (fun _ hk => hk.2) (.slice Ao28 t313.length co28)) (fun _ hk => hk.2) (.slice Ao105 y321.length co105)) (fun _ hk => trivial), by repeat (first | (with_reducible first | exact HB.out | apply below_alloc | apply pw_below_drewN | apply below_drew1 | refine below_set ?_ GE306.out | refine below_set ?_ GE307.out | refine below_set ?_ GE308.out | refine below_set ?_ GE316.out) | exact HB.out)⟩
                ·
                 rw [if_neg c149] at H
                 have c149b0 : (a1_0 == 8) = false := beq_eq_false_iff_ne.mpr c149
                 have c149b1 : (a1_0 != 8) = true := bne_iff_ne.mpr c149
                 simp only [Option.some.injEq, Prod.mk.injEq] at H
                 obtain ⟨rfl, rfl, rfl, rfl, rfl, rfl⟩ := H
                 have hnb157 := NB316_306.out
                 have hnc157 := NB306_316.out
                 have hnb158 := NB316_307.out
                 have hnc158 := NB307_316.out
                 have hnb159 := NB316_308.out
                 have hnc159 := NB308_316.out
                 have hcz160_0 : wc.cell? ⟨gb316, 0, none⟩ = some (.int .i64 a0_0) := (blk_cell BK316.out 0).trans rfl
                 have hcz160_1 : wc.cell? ⟨gb316, 1, none⟩ = some (.int .i64 a0_1) := (blk_cell BK316.out 1).trans rfl
                 have hcz160_2 : wc.cell? ⟨gb316, 2, none⟩ = some (.slice Ao29 t310.length co29) := (blk_cell BK316.out 2).trans rfl
                 have hcz160_3 : wc.cell? ⟨gb316, 3, none⟩ = some (.slice Ao28 t313.length co28) := (blk_cell BK316.out 3).trans rfl
                 have hcz160_4 : wc.cell? ⟨gb316, 4, none⟩ = some (.slice Ao105 y321.length co105) := (blk_cell BK316.out 4).trans rfl
                 have hfz160_0 := blk_frozen BK316.out 0
                 have hfz160_1 := blk_frozen BK316.out 1
                 have hfz160_2 := blk_frozen BK316.out 2
                 have hfz160_3 := blk_frozen BK316.out 3
                 have hfz160_4 := blk_frozen BK316.out 4
                 have hnb161 := NB308_306.out
                 have hnc161 := NB306_308.out
                 have hnb162 := NB308_307.out
                 have hnc162 := NB307_308.out
                 have hcz163_0 : wc.cell? ⟨gb308, 0, none⟩ = some (.int .i64 0) := (blk_cell BK308.out 0).trans rfl
                 have hcz163_1 : wc.cell? ⟨gb308, 1, none⟩ = some (.int .i64 0) := (blk_cell BK308.out 1).trans rfl
                 have hcz163_2 : wc.cell? ⟨gb308, 2, none⟩ = some (.slice none 0 0) := (blk_cell BK308.out 2).trans rfl
                 have hcz163_3 : wc.cell? ⟨gb308, 3, none⟩ = some (.slice none 0 0) := (blk_cell BK308.out 3).trans rfl
                 have hcz163_4 : wc.cell? ⟨gb308, 4, none⟩ = some (.slice none 0 0) := (blk_cell BK308.out 4).trans rfl
                 have hfz163_0 := blk_frozen BK308.out 0
                 have hfz163_1 := blk_frozen BK308.out 1
                 have hfz163_2 := blk_frozen BK308.out 2
                 have hfz163_3 := blk_frozen BK308.out 3
                 have hfz163_4 := blk_frozen BK308.out 4
                 go_wp2
                 refine bodyPost_ret (results_ct rfl _ _ gb308 25 #[.int .i64 a0_0, .int .i64 a0_1, .slice Ao29 t310.length co29, .slice Ao28 t313.length co28, .slice Ao105 y321.length co105] (0, 0) _ rfl (by (with_reducible repeat (first | refine blk_drewN ?_ _ | refine blk_drew ?_ | refine blk_alloc ?_ _)); refine blk_put (cs := #[.int .i64 a0_0, .int .i64 a0_1, .slice Ao29 t310.length co29, .slice Ao28 t313.length co28, .slice none 0 0]) ?_ 4 _ rfl; (with_reducible repeat (first | refine blk_drewN ?_ _ | refine blk_drew ?_ | refine blk_alloc ?_ _)); refine blk_put (cs := #[.int .i64 a0_0, .int .i64 a0_1, .slice Ao29 t310.length co29, .slice none 0 0, .slice none 0 0]) ?_ 3 _ rfl; (with_reducible repeat (first | refine blk_drewN ?_ _ | refine blk_drew ?_ | refine blk_alloc ?_ _)); refine blk_put (cs := #[.int .i64 a0_0, .int .i64 a0_1, .slice none 0 0, .slice none 0 0, .slice none 0 0]) ?_ 2 _ rfl; (with_reducible repeat (first | refine blk_drewN ?_ _ | refine blk_drew ?_ | refine blk_alloc ?_ _)); refine blk_put (cs := #[.int .i64 a0_0, .int .i64 0, .slice none 0 0, .slice none 0 0, .slice none 0 0]) ?_ 1 _ rfl; (with_reducible repeat (first | refine blk_drewN ?_ _ | refine blk_drew ?_ | refine blk_alloc ?_ _)); refine blk_put (cs := #[.int .i64 0, .int .i64 0, .slice none 0 0, .slice none 0 0, .slice none 0 0]) ?_ 0 _ rfl; (with_reducible repeat (first | refine blk_drewN ?_ _ | refine blk_drew ?_ | refine blk_alloc ?_ _)); exact BK308.out) Try.underlying25 rfl (by kernel_rfl)) rfl ?_
                 exact ⟨_, _, _, by first | rfl | (simp [errW_none, errW_some] <;> rfl) | (simp [*, errW_none, errW_some] <;> rfl), by (with_reducible repeat (first | apply Kd.R_alloc | apply Kd.R_drewN | apply Kd.R_drew)); exact Kd.R_mono (Kd.R_far (p := ⟨gb308, 4, none⟩) (Kd.R_far (p := ⟨gb308, 3, none⟩) (Kd.R_far (p := ⟨gb308, 2, none⟩) (Kd.R_far (p := ⟨gb308, 1, none⟩) (Kd.R_far (p := ⟨gb308, 0, none⟩) (Kd.R_types HO_317002.out BK308.out (by decide)) (fun _ hk => hk.2) (.int .i64 a0_0)) (fun _ hk => hk.2) (.int .i64 a0_1)) (fun _ hk => hk.2) (.slice Ao29 t310.length co29)) (fun _ hk => hk.2) (.slice Ao28 t313.length co28)) (fun _ hk => hk.2) (.slice Ao105 y321.length co105)) (fun _ hk => hk.1), by (with_reducible repeat (first | apply Kd.R_alloc | apply Kd.R_drewN | apply Kd.R_drew)); exact Kd.R_mono (Kd.R_far (p := ⟨gb308, 4, none⟩) (Kd.R_far (p := ⟨gb308, 3, none⟩) (Kd.R_far (p := ⟨gb308, 2, none⟩) (Kd.R_far (p := ⟨gb308, 1, none⟩) (Kd.R_far (p := ⟨gb308, 0, none⟩) (Kd.R_types HO_317003.out BK308.out (by decide)) (fun _ hk => hk.2) (.int .i64 a0_0)) (fun _ hk => hk.2) (.int .i64 a0_1)) (fun _ hk => hk.2) (.slice Ao29 t310.length co29)) (fun _ hk => hk.2) (.slice Ao28 t313.length co28)) (fun _ hk => hk.2) (.slice Ao105 y321.length co105)) (fun _ hk => hk.1), by (with_reducible repeat (first | apply Kd.R_alloc | apply Kd.R_drewN | apply Kd.R_drew)); exact Kd.R_mono (Kd.R_far (p := ⟨gb308, 4, none⟩) (Kd.R_far (p := ⟨gb308, 3, none⟩) (Kd.R_far (p := ⟨gb308, 2, none⟩) (Kd.R_far (p := ⟨gb308, 1, none⟩) (Kd.R_far (p := ⟨gb308, 0, none⟩) (Kd.R_types HO_317004.out BK308.out (by decide)) (fun _ hk => hk.2) (.int .i64 a0_0)) (fun _ hk => hk.2) (.int .i64 a0_1)) (fun _ hk => hk.2) (.slice Ao29 t310.length co29)) (fun _ hk => hk.2) (.slice Ao28 t313.length co28)) (fun _ hk => hk.2) (.slice Ao105 y321.length co105)) (fun _ hk => trivial), by repeat (first | (with_reducible first | exact HB.out | apply below_alloc | apply pw_below_drewN | apply below_drew1 | refine below_set ?_ GE306.out | refine below_set ?_ GE307.out | refine below_set ?_ GE308.out | refine below_set ?_ GE316.out) | exact HB.out)⟩
     ·
      rw [if_neg c41] at H
      exact absurd H (by simp)
 ·
  rw [if_neg c4] at H
  have c4b0 : (t309 == 0) = false := beq_eq_false_iff_ne.mpr c4
  have c4b1 : (t309 != 0) = true := bne_iff_ne.mpr c4
  simp only [Option.some.injEq, Prod.mk.injEq] at H
  obtain ⟨rfl, rfl, rfl, rfl, rfl, rfl⟩ := H
  go_enter Try.func24, Try.ntmps24
  go_wp2_with (first | ((with_reducible refine gate_dst (N := 2) rfl ?_); refine box_event ?hg (N := 2) ?hd (cs := #[.int .i64 a0_0, .int .i64 a0_1, .slice A0_2 l0_2.length c0_2, .slice A0_3 l0_3.length c0_3, .slice A0_4 l0_4.length c0_4]) (t := 25) ?hr ?_; (case hd => rfl); (case hg => rfl); (case hr => first | (go_simp; done) | (go_simp; rfl)); intro gb306 hg w164 hbox hb; have n0_ := Aside0.mk (below_step (by repeat (first | (with_reducible first | exact HB.out | apply below_alloc | apply pw_below_drewN | apply below_drew1) | exact HB.out)) hb); have n1_ := Aside0.mk (hbox); have n2_ := Aside0.mk ((by rw [hg]; exact (below_size (by repeat (first | (with_reducible first | exact HB.out | apply below_alloc | apply pw_below_drewN | apply below_drew1) | exact HB.out))) : w.heap.size ≤ gb306)); have n3_ := Aside0.mk ((by rw [hg]; exact (below_size (by repeat (first | (with_reducible first | exact HB.out | apply below_alloc | apply pw_below_drewN | apply below_drew1) | exact HB.out))) : w.heap.size ≤ gb306)); clear HB; have HB := n0_; have BK306 := n1_; have GW306 := n2_; have GE306 := n3_; clear n0_ n1_ n2_ n3_; clear hb hbox hg) | ((with_reducible refine gate_dst (N := 3) rfl ?_); refine box_event ?hg (N := 3) ?hd (cs := #[.int .i64 a1_0, .int .i64 a1_1, .int .i64 a1_2, .int .i64 a1_3]) (t := 34) ?hr ?_; (case hd => rfl); (case hg => rfl); (case hr => first | (go_simp; done) | (go_simp; rfl)); intro gb307 hg w165 hbox hb; have n0_ := Aside0.mk (blk_below (g := gb306) (o := .cells #[.int .i64 a0_0, .int .i64 a0_1, .slice A0_2 l0_2.length c0_2, .slice A0_3 l0_3.length c0_3, .slice A0_4 l0_4.length c0_4] 25 (0, 0)) (by (with_reducible repeat (first | refine blk_drewN ?_ _ | refine blk_drew ?_ | refine blk_alloc ?_ _)); exact BK306.out) hb); have n1_ := Aside0.mk (below_step (by repeat (first | (with_reducible first | exact HB.out | apply below_alloc | apply pw_below_drewN | apply below_drew1 | refine below_set ?_ GE306.out) | exact HB.out)) hb); have n2_ := Aside0.mk (hbox); have n3_ := Aside0.mk ((by rw [hg]; exact (below_size (by repeat (first | (with_reducible first | exact HB.out | apply below_alloc | apply pw_below_drewN | apply below_drew1 | refine below_set ?_ GE306.out) | exact HB.out))) : w.heap.size ≤ gb307)); have n4_ := Aside0.mk ((by rw [hg]; exact (below_size (by repeat (first | (with_reducible first | exact HB.out | apply below_alloc | apply pw_below_drewN | apply below_drew1 | refine below_set ?_ GE306.out) | exact HB.out))) : w.heap.size ≤ gb307)); have n5_ := Aside0.mk ((by rw [hg]; exact Nat.ne_of_lt (blk_lt (g := gb306) (o := .cells #[.int .i64 a0_0, .int .i64 a0_1, .slice A0_2 l0_2.length c0_2, .slice A0_3 l0_3.length c0_3, .slice A0_4 l0_4.length c0_4] 25 (0, 0)) (by (with_reducible repeat (first | refine blk_drewN ?_ _ | refine blk_drew ?_ | refine blk_alloc ?_ _)); exact BK306.out)) : gb306 ≠ gb307)); have n6_ := Aside0.mk ((by rw [hg]; exact Nat.ne_of_gt (blk_lt (g := gb306) (o := .cells #[.int .i64 a0_0, .int .i64 a0_1, .slice A0_2 l0_2.length c0_2, .slice A0_3 l0_3.length c0_3, .slice A0_4 l0_4.length c0_4] 25 (0, 0)) (by (with_reducible repeat (first | refine blk_drewN ?_ _ | refine blk_drew ?_ | refine blk_alloc ?_ _)); exact BK306.out)) : gb307 ≠ gb306)); clear BK306; clear HB; have BK306 := n0_; have HB := n1_; have BK307 := n2_; have GW307 := n3_; have GE307 := n4_; have NB306_307 := n5_; have NB307_306 := n6_; clear n0_ n1_ n2_ n3_ n4_ n5_ n6_; clear hb hbox hg) | ((with_reducible refine gate_dst (N := 4) rfl ?_); refine box_event ?hg (N := 4) ?hd (cs := #[.int .i64 0, .int .i64 0, .slice none 0 0, .slice none 0 0, .slice none 0 0]) (t := 25) ?hr ?_; (case hd => rfl); (case hg => rfl); (case hr => first | (go_simp; done) | (go_simp; rfl)); intro gb308 hg w166 hbox hb; have n0_ := Aside0.mk (blk_below (g := gb306) (o := .cells #[.int .i64 a0_0, .int .i64 a0_1, .slice A0_2 l0_2.length c0_2, .slice A0_3 l0_3.length c0_3, .slice A0_4 l0_4.length c0_4] 25 (0, 0)) (by (with_reducible repeat (first | refine blk_drewN ?_ _ | refine blk_drew ?_ | refine blk_alloc ?_ _)); exact BK306.out) hb); have n1_ := Aside0.mk (blk_below (g := gb307) (o := .cells #[.int .i64 a1_0, .int .i64 a1_1, .int .i64 a1_2, .int .i64 a1_3] 34 (0, 0)) (by (with_reducible repeat (first | refine blk_drewN ?_ _ | refine blk_drew ?_ | refine blk_alloc ?_ _)); exact BK307.out) hb); have n2_ := Aside0.mk (below_step (by repeat (first | (with_reducible first | exact HB.out | apply below_alloc | apply pw_below_drewN | apply below_drew1 | refine below_set ?_ GE306.out | refine below_set ?_ GE307.out) | exact HB.out)) hb); have n3_ := Aside0.mk (hbox); have n4_ := Aside0.mk ((by rw [hg]; exact (below_size (by repeat (first | (with_reducible first | exact HB.out | apply below_alloc | apply pw_below_drewN | apply below_drew1 | refine below_set ?_ GE306.out | refine below_set ?_ GE307.out) | exact HB.out))) : w.heap.size ≤ gb308)); have n5_ := Aside0.mk ((by rw [hg]; exact (below_size (by repeat (first | (with_reducible first | exact HB.out | apply below_alloc | apply pw_below_drewN | apply below_drew1 | refine below_set ?_ GE306.out | refine below_set ?_ GE307.out) | exact HB.out))) : w.heap.size ≤ gb308)); have n6_ := Aside0.mk ((by rw [hg]; exact Nat.ne_of_lt (blk_lt (g := gb306) (o := .cells #[.int .i64 a0_0, .int .i64 a0_1, .slice A0_2 l0_2.length c0_2, .slice A0_3 l0_3.length c0_3, .slice A0_4 l0_4.length c0_4] 25 (0, 0)) (by (with_reducible repeat (first | refine blk_drewN ?_ _ | refine blk_drew ?_ | refine blk_alloc ?_ _)); exact BK306.out)) : gb306 ≠ gb308)); have n7_ := Aside0.mk ((by rw [hg]; exact Nat.ne_of_gt (blk_lt (g := gb306) (o := .cells #[.int .i64 a0_0, .int .i64 a0_1, .slice A0_2 l0_2.length c0_2, .slice A0_3 l0_3.length c0_3, .slice A0_4 l0_4.length c0_4] 25 (0, 0)) (by (with_reducible repeat (first | refine blk_drewN ?_ _ | refine blk_drew ?_ | refine blk_alloc ?_ _)); exact BK306.out)) : gb308 ≠ gb306)); have n8_ := Aside0.mk ((by rw [hg]; exact Nat.ne_of_lt (blk_lt (g := gb307) (o := .cells #[.int .i64 a1_0, .int .i64 a1_1, .int .i64 a1_2, .int .i64 a1_3] 34 (0, 0)) (by (with_reducible repeat (first | refine blk_drewN ?_ _ | refine blk_drew ?_ | refine blk_alloc ?_ _)); exact BK307.out)) : gb307 ≠ gb308)); have n9_ := Aside0.mk ((by rw [hg]; exact Nat.ne_of_gt (blk_lt (g := gb307) (o := .cells #[.int .i64 a1_0, .int .i64 a1_1, .int .i64 a1_2, .int .i64 a1_3] 34 (0, 0)) (by (with_reducible repeat (first | refine blk_drewN ?_ _ | refine blk_drew ?_ | refine blk_alloc ?_ _)); exact BK307.out)) : gb308 ≠ gb307)); clear BK306; clear BK307; clear HB; have BK306 := n0_; have BK307 := n1_; have HB := n2_; have BK308 := n3_; have GW308 := n4_; have GE308 := n5_; have NB306_308 := n6_; have NB308_306 := n7_; have NB307_308 := n8_; have NB308_307 := n9_; clear n0_ n1_ n2_ n3_ n4_ n5_ n6_ n7_ n8_ n9_; clear hb hbox hg; have hnb167 := NB306_307.out; have hnc167 := NB307_306.out; have hnb168 := NB306_308.out; have hnc168 := NB308_306.out; have hcz169_0 : w166.cell? ⟨gb306, 0, none⟩ = some (.int .i64 a0_0) := (blk_cell BK306.out 0).trans rfl; have hcz169_1 : w166.cell? ⟨gb306, 1, none⟩ = some (.int .i64 a0_1) := (blk_cell BK306.out 1).trans rfl; have hcz169_2 : w166.cell? ⟨gb306, 2, none⟩ = some (.slice A0_2 l0_2.length c0_2) := (blk_cell BK306.out 2).trans rfl; have hcz169_3 : w166.cell? ⟨gb306, 3, none⟩ = some (.slice A0_3 l0_3.length c0_3) := (blk_cell BK306.out 3).trans rfl; have hcz169_4 : w166.cell? ⟨gb306, 4, none⟩ = some (.slice A0_4 l0_4.length c0_4) := (blk_cell BK306.out 4).trans rfl; have hfz169_0 := blk_frozen BK306.out 0; have hfz169_1 := blk_frozen BK306.out 1; have hfz169_2 := blk_frozen BK306.out 2; have hfz169_3 := blk_frozen BK306.out 3; have hfz169_4 := blk_frozen BK306.out 4; have hnb170 := NB307_308.out; have hnc170 := NB308_307.out; have hcz171_0 : w166.cell? ⟨gb307, 0, none⟩ = some (.int .i64 a1_0) := (blk_cell BK307.out 0).trans rfl; have hcz171_1 : w166.cell? ⟨gb307, 1, none⟩ = some (.int .i64 a1_1) := (blk_cell BK307.out 1).trans rfl; have hcz171_2 : w166.cell? ⟨gb307, 2, none⟩ = some (.int .i64 a1_2) := (blk_cell BK307.out 2).trans rfl; have hcz171_3 : w166.cell? ⟨gb307, 3, none⟩ = some (.int .i64 a1_3) := (blk_cell BK307.out 3).trans rfl; have hfz171_0 := blk_frozen BK307.out 0; have hfz171_1 := blk_frozen BK307.out 1; have hfz171_2 := blk_frozen BK307.out 2; have hfz171_3 := blk_frozen BK307.out 3) | ((with_reducible refine gate_callee (f := 19) rfl ?_); refine goesL_ (some 11) rfl rfl Try.func19 (by kernel_rfl) rfl #[.agg #[.int .i64 a0_0, .int .i64 a0_1, .slice A0_2 l0_2.length c0_2, .slice A0_3 l0_3.length c0_3, .slice A0_4 l0_4.length c0_4], .agg #[.int .i64 a1_0, .int .i64 a1_1, .int .i64 a1_2, .int .i64 a1_3]] rfl (by (try simp only [List.map_toArray, List.map_cons, List.map_nil]); first | done | rfl | (simp only [List.length_drop, List.length_take]; rfl)) ?_; (with_reducible refine (examboardref15_Allowed.calls k a0_0 a0_1 _ _ l0_2 _ _ l0_3 _ _ l0_4 a1_0 a1_1 a1_2 a1_3 t309 _ ?side1 ?side2 ?side3 ?side4 ?side5 ?side6 A3.out).mono ?_); (case side1 => repeat (first | exact (Kd.C_below HR0_2.out HB.out) | (with_reducible refine Kd.C_alloc ?_ _) | (with_reducible refine Kd.C_drewN ?_ _) | (with_reducible refine Kd.C_drew ?_))); (case side2 => exact HC0_2.out); (case side3 => repeat (first | exact (Kd.C_below HR0_3.out HB.out) | (with_reducible refine Kd.C_alloc ?_ _) | (with_reducible refine Kd.C_drewN ?_ _) | (with_reducible refine Kd.C_drew ?_))); (case side4 => exact HC0_3.out); (case side5 => repeat (first | exact (Kd.C_below HR0_4.out HB.out) | (with_reducible refine Kd.C_alloc ?_ _) | (with_reducible refine Kd.C_drewN ?_ _) | (with_reducible refine Kd.C_drew ?_))); (case side6 => exact HC0_4.out); rintro e w172 ⟨rfl, hb⟩; refine ⟨_, rfl, ?_⟩; have n0_ := Aside0.mk (blk_below (g := gb306) (o := .cells #[.int .i64 a0_0, .int .i64 a0_1, .slice A0_2 l0_2.length c0_2, .slice A0_3 l0_3.length c0_3, .slice A0_4 l0_4.length c0_4] 25 (0, 0)) (by (with_reducible repeat (first | refine blk_drewN ?_ _ | refine blk_drew ?_ | refine blk_alloc ?_ _)); exact BK306.out) hb); have n1_ := Aside0.mk (blk_below (g := gb307) (o := .cells #[.int .i64 a1_0, .int .i64 a1_1, .int .i64 a1_2, .int .i64 a1_3] 34 (0, 0)) (by (with_reducible repeat (first | refine blk_drewN ?_ _ | refine blk_drew ?_ | refine blk_alloc ?_ _)); exact BK307.out) hb); have n2_ := Aside0.mk (blk_below (g := gb308) (o := .cells #[.int .i64 0, .int .i64 0, .slice none 0 0, .slice none 0 0, .slice none 0 0] 25 (0, 0)) (by (with_reducible repeat (first | refine blk_drewN ?_ _ | refine blk_drew ?_ | refine blk_alloc ?_ _)); exact BK308.out) hb); have n3_ := Aside0.mk (below_step (by repeat (first | (with_reducible first | exact HB.out | apply below_alloc | apply pw_below_drewN | apply below_drew1 | refine below_set ?_ GE306.out | refine below_set ?_ GE307.out | refine below_set ?_ GE308.out) | exact HB.out)) hb); clear BK306; clear BK307; clear BK308; clear HB; have BK306 := n0_; have BK307 := n1_; have BK308 := n2_; have HB := n3_; clear n0_ n1_ n2_ n3_; (try clear hb); (try clear hb2); (try clear hk); (try clear hi); have hcz173_0 : w172.cell? ⟨gb308, 0, none⟩ = some (.int .i64 0) := (blk_cell BK308.out 0).trans rfl; have hcz173_1 : w172.cell? ⟨gb308, 1, none⟩ = some (.int .i64 0) := (blk_cell BK308.out 1).trans rfl; have hcz173_2 : w172.cell? ⟨gb308, 2, none⟩ = some (.slice none 0 0) := (blk_cell BK308.out 2).trans rfl; have hcz173_3 : w172.cell? ⟨gb308, 3, none⟩ = some (.slice none 0 0) := (blk_cell BK308.out 3).trans rfl; have hcz173_4 : w172.cell? ⟨gb308, 4, none⟩ = some (.slice none 0 0) := (blk_cell BK308.out 4).trans rfl; have hfz173_0 := blk_frozen BK308.out 0; have hfz173_1 := blk_frozen BK308.out 1; have hfz173_2 := blk_frozen BK308.out 2; have hfz173_3 := blk_frozen BK308.out 3; have hfz173_4 := blk_frozen BK308.out 4))
  refine bodyPost_ret (results_ct rfl _ _ gb308 25 #[.int .i64 0, .int .i64 0, .slice none 0 0, .slice none 0 0, .slice none 0 0] (0, 0) _ rfl (by (with_reducible repeat (first | refine blk_drewN ?_ _ | refine blk_drew ?_ | refine blk_alloc ?_ _)); refine blk_put (cs := #[.int .i64 0, .int .i64 0, .slice none 0 0, .slice none 0 0, .slice none 0 0]) ?_ 4 _ rfl; (with_reducible repeat (first | refine blk_drewN ?_ _ | refine blk_drew ?_ | refine blk_alloc ?_ _)); refine blk_put (cs := #[.int .i64 0, .int .i64 0, .slice none 0 0, .slice none 0 0, .slice none 0 0]) ?_ 3 _ rfl; (with_reducible repeat (first | refine blk_drewN ?_ _ | refine blk_drew ?_ | refine blk_alloc ?_ _)); refine blk_put (cs := #[.int .i64 0, .int .i64 0, .slice none 0 0, .slice none 0 0, .slice none 0 0]) ?_ 2 _ rfl; (with_reducible repeat (first | refine blk_drewN ?_ _ | refine blk_drew ?_ | refine blk_alloc ?_ _)); refine blk_put (cs := #[.int .i64 0, .int .i64 0, .slice none 0 0, .slice none 0 0, .slice none 0 0]) ?_ 1 _ rfl; (with_reducible repeat (first | refine blk_drewN ?_ _ | refine blk_drew ?_ | refine blk_alloc ?_ _)); refine blk_put (cs := #[.int .i64 0, .int .i64 0, .slice none 0 0, .slice none 0 0, .slice none 0 0]) ?_ 0 _ rfl; (with_reducible repeat (first | refine blk_drewN ?_ _ | refine blk_drew ?_ | refine blk_alloc ?_ _)); exact BK308.out) Try.underlying25 rfl (by kernel_rfl)) rfl ?_
  exact ⟨_, _, _, by first | rfl | (simp [errW_none, errW_some] <;> rfl) | (simp [*, errW_none, errW_some] <;> rfl), by first | exact Kd.R_nil _ _ _ _ _ | exact Kd.N_nil _ _ _ _ _ | exact Kd.V_nil _ _ _ _ _ | exact Kd.Q_nil _ _ _ _ _ | exact Kd.S_nil _ _ _ _ _, by first | exact Kd.R_nil _ _ _ _ _ | exact Kd.N_nil _ _ _ _ _ | exact Kd.V_nil _ _ _ _ _ | exact Kd.Q_nil _ _ _ _ _ | exact Kd.S_nil _ _ _ _ _, by first | exact Kd.R_nil _ _ _ _ _ | exact Kd.N_nil _ _ _ _ _ | exact Kd.V_nil _ _ _ _ _ | exact Kd.Q_nil _ _ _ _ _ | exact Kd.S_nil _ _ _ _ _, by repeat (first | (with_reducible first | exact HB.out | apply below_alloc | apply pw_below_drewN | apply below_drew1 | refine below_set ?_ GE306.out | refine below_set ?_ GE307.out | refine below_set ?_ GE308.out) | exact HB.out)⟩

end Go.Proofs.Ytokmnbdnligcaaa.All
