-- Written by myprint.py for this claim: functions of the program as Lean functions, with the proofs that the calls come to them.
import Derived.Test.YtokmnbdnligcaaaAllx0
import Derived.Test.YtokmnbdnligcaaaAllx8
import Derived.Test.YtokmnbdnligcaaaAllx17
import Derived.Test.YtokmnbdnligcaaaAllx18
namespace Go.Proofs.Ytokmnbdnligcaaa.All
open Go.RowKit Go.Proofs.YtokmnbdnligcaaaW.PrintWords Go.Proofs.YtokmnbdnligcaaaW.PrintLast Go.Proofs.YtokmnbdnligcaaaW.PrintMore
attribute [local go_sem] max2_int min2_int max_two min_two max_three min_three max_four min_four   -- for this text's walks alone
set_option linter.unusedVariables false
set_option linter.unusedSimpArgs false

/-! ### review_Apply: function 13 -/
mutual
def review_Apply.j0 : Nat → Int → Bool → Int → Int → Int → Int → Int → Int → List Int → List Int → List (S34) → Option (Int × Int × List Int × List Int × (List (S34)) × Int)
 | 0, _, _, _, _, _, _, _, _, _, _, _ => none
 | k + 1, x33, x34, x144000, x144001, x144002, x144003, x162000, x162001, x162002, x162003, x162004 => if x34 = true then (some (2, x162001, x162002, x162003, x162004, 0)) else (if x33 = 2 then ((some (([x144001] : List Int) : List Int)).bind fun y162 => (if x162002.length + y162.length < 17592186044416 then ((some (x162002 ++ y162 : List Int)).bind fun y165 => (if (y165.length : Int) ≥ 2 then (some (3, x162001, y165, x162003, x162004, 0)) else (some (x162000, x162001, y165, x162003, x162004, 0)))) else (none))) else (if x33 = 3 then (review_Apply.j1 k x33 (x33 == 3) x144000 x144001 x144002 x144003 x162000 x162001 x162002 x162003 x162004) else (review_Apply.j1 k x33 (x33 == 9) x144000 x144001 x144002 x144003 x162000 x162001 x162002 x162003 x162004)))
def review_Apply.j1 : Nat → Int → Bool → Int → Int → Int → Int → Int → Int → List Int → List Int → List (S34) → Option (Int × Int × List Int × List Int × (List (S34)) × Int)
 | 0, _, _, _, _, _, _, _, _, _, _, _ => none
 | k + 1, x33, x51, x144000, x144001, x144002, x144003, x162000, x162001, x162002, x162003, x162004 => if x51 = true then (some (1, x162001, ([] : List Int), ([] : List Int), x162004, 0)) else (if x33 = 4 then ((some (([x144001] : List Int) : List Int)).bind fun y168 => (if x162003.length + y168.length < 17592186044416 then (some (4, x162001, x162002, (x162003 ++ y168), x162004, 0)) else (none))) else (if x33 = 5 then (review_Apply.j2 k x33 (x33 == 5) x162000 x162001 x162002 x162003 x162004) else (review_Apply.j2 k x33 (x33 == 7) x162000 x162001 x162002 x162003 x162004)))
def review_Apply.j2 : Nat → Int → Bool → Int → Int → List Int → List Int → List (S34) → Option (Int × Int × List Int × List Int × (List (S34)) × Int)
 | 0, _, _, _, _, _, _, _ => none
 | k + 1, x33, x67, x162000, x162001, x162002, x162003, x162004 => if x67 = true then (some (5, x162001, x162002, x162003, x162004, 0)) else (if x33 = 6 then (some (6, x162001, x162002, x162003, x162004, 0)) else (if x33 = 8 then (some (7, x162001, x162002, x162003, x162004, 0)) else (some (x162000, x162001, x162002, x162003, x162004, 0))))
end
def review_Apply.f (k : Nat) (a0_0 : Int) (a0_1 : Int) (l0_2 : List Int) (l0_3 : List Int) (l0_4 : List (S34)) (a1_0 : Int) (a1_1 : Int) (a1_2 : Int) (a1_3 : Int) : Option (Int × Int × List Int × List Int × (List (S34)) × Int) := (review_Allowed.f k a0_0 a0_1 l0_2 l0_3 l0_4 a1_0 a1_1 a1_2 a1_3).bind fun t145 => (if t145 = 0 then ((slices_Clone_int_int.f l0_2).bind fun t146 => ((slices_Clone_int_int.f l0_3).bind fun t149 => ((api_Action.f l0_4).bind fun t152 => ((some (([(⟨a1_0, a1_1, a1_2, a1_3⟩ : S34)] : List (S34)) : List (S34))).bind fun y155 => (if t152.length + y155.length < 4398046511104 then (review_Apply.j0 k a1_0 (a1_0 == 1) a1_0 a1_1 a1_2 a1_3 a0_0 a0_1 t146 t149 (t152 ++ y155)) else (none)))))) else (some (0, 0, ([] : List Int), ([] : List Int), ([] : List (S34)), t145)))
theorem review_Apply.mono_l : ∀ k, (∀ y0 y1 y2 y3 y4 y5 y6 y7 y8 y9 y10, LeO (review_Apply.j0 k y0 y1 y2 y3 y4 y5 y6 y7 y8 y9 y10) (review_Apply.j0 (k + 1) y0 y1 y2 y3 y4 y5 y6 y7 y8 y9 y10)) ∧ (∀ y0 y1 y2 y3 y4 y5 y6 y7 y8 y9 y10, LeO (review_Apply.j1 k y0 y1 y2 y3 y4 y5 y6 y7 y8 y9 y10) (review_Apply.j1 (k + 1) y0 y1 y2 y3 y4 y5 y6 y7 y8 y9 y10)) ∧ (∀ y0 y1 y2 y3 y4 y5 y6, LeO (review_Apply.j2 k y0 y1 y2 y3 y4 y5 y6) (review_Apply.j2 (k + 1) y0 y1 y2 y3 y4 y5 y6))
 | 0 => ⟨fun _ _ _ _ _ _ _ _ _ _ _ r h => by simp [review_Apply.j0] at h, fun _ _ _ _ _ _ _ _ _ _ _ r h => by simp [review_Apply.j1] at h, fun _ _ _ _ _ _ _ r h => by simp [review_Apply.j2] at h⟩
 | k + 1 => by
  obtain ⟨ih0, ih1, ih2⟩ := review_Apply.mono_l k
  refine ⟨?_, ?_, ?_⟩
  ·
   intro y0 y1 y2 y3 y4 y5 y6 y7 y8 y9 y10
   unfold review_Apply.j0
   repeat' first
   | (with_reducible exact ih0 _ _ _ _ _ _ _ _ _ _ _)
   | (with_reducible exact ih1 _ _ _ _ _ _ _ _ _ _ _)
   | (with_reducible exact ih2 _ _ _ _ _ _ _)
   | (with_reducible exact review_Allowed.mono _ _ _ _ _ _ _ _ _ _)
   | (with_reducible exact LeO.refl _)
   | (with_reducible exact LeO.none _)
   | (with_reducible refine LeO.ite ?_ ?_)
   | (with_reducible refine LeO.bind ?_ (fun _ => ?_))
   | exact ih0 _ _ _ _ _ _ _ _ _ _ _
   | exact ih1 _ _ _ _ _ _ _ _ _ _ _
   | exact ih2 _ _ _ _ _ _ _
   | exact review_Allowed.mono _ _ _ _ _ _ _ _ _ _
   | exact LeO.none _
   | refine LeO.ite ?_ ?_
   | refine LeO.bind ?_ (fun _ => ?_)
  ·
   intro y0 y1 y2 y3 y4 y5 y6 y7 y8 y9 y10
   unfold review_Apply.j1
   repeat' first
   | (with_reducible exact ih0 _ _ _ _ _ _ _ _ _ _ _)
   | (with_reducible exact ih1 _ _ _ _ _ _ _ _ _ _ _)
   | (with_reducible exact ih2 _ _ _ _ _ _ _)
   | (with_reducible exact review_Allowed.mono _ _ _ _ _ _ _ _ _ _)
   | (with_reducible exact LeO.refl _)
   | (with_reducible exact LeO.none _)
   | (with_reducible refine LeO.ite ?_ ?_)
   | (with_reducible refine LeO.bind ?_ (fun _ => ?_))
   | exact ih0 _ _ _ _ _ _ _ _ _ _ _
   | exact ih1 _ _ _ _ _ _ _ _ _ _ _
   | exact ih2 _ _ _ _ _ _ _
   | exact review_Allowed.mono _ _ _ _ _ _ _ _ _ _
   | exact LeO.none _
   | refine LeO.ite ?_ ?_
   | refine LeO.bind ?_ (fun _ => ?_)
  ·
   intro y0 y1 y2 y3 y4 y5 y6
   unfold review_Apply.j2
   repeat' first
   | (with_reducible exact ih0 _ _ _ _ _ _ _ _ _ _ _)
   | (with_reducible exact ih1 _ _ _ _ _ _ _ _ _ _ _)
   | (with_reducible exact ih2 _ _ _ _ _ _ _)
   | (with_reducible exact review_Allowed.mono _ _ _ _ _ _ _ _ _ _)
   | (with_reducible exact LeO.refl _)
   | (with_reducible exact LeO.none _)
   | (with_reducible refine LeO.ite ?_ ?_)
   | (with_reducible refine LeO.bind ?_ (fun _ => ?_))
   | exact ih0 _ _ _ _ _ _ _ _ _ _ _
   | exact ih1 _ _ _ _ _ _ _ _ _ _ _
   | exact ih2 _ _ _ _ _ _ _
   | exact review_Allowed.mono _ _ _ _ _ _ _ _ _ _
   | exact LeO.none _
   | refine LeO.ite ?_ ?_
   | refine LeO.bind ?_ (fun _ => ?_)
theorem review_Apply.mono : ∀ a0 a1 a2 a3 a4 a5 a6 a7 a8 k, LeO (review_Apply.f k a0 a1 a2 a3 a4 a5 a6 a7 a8) (review_Apply.f (k + 1) a0 a1 a2 a3 a4 a5 a6 a7 a8) := by
 intro a0 a1 a2 a3 a4 a5 a6 a7 a8 k
 obtain ⟨ih0, ih1, ih2⟩ := review_Apply.mono_l k
 unfold review_Apply.f
 repeat' first
   | (with_reducible exact ih0 _ _ _ _ _ _ _ _ _ _ _)
   | (with_reducible exact ih1 _ _ _ _ _ _ _ _ _ _ _)
   | (with_reducible exact ih2 _ _ _ _ _ _ _)
   | (with_reducible exact review_Allowed.mono _ _ _ _ _ _ _ _ _ _)
   | (with_reducible exact LeO.refl _)
   | (with_reducible exact LeO.none _)
   | (with_reducible refine LeO.ite ?_ ?_)
   | (with_reducible refine LeO.bind ?_ (fun _ => ?_))
   | exact ih0 _ _ _ _ _ _ _ _ _ _ _
   | exact ih1 _ _ _ _ _ _ _ _ _ _ _
   | exact ih2 _ _ _ _ _ _ _
   | exact review_Allowed.mono _ _ _ _ _ _ _ _ _ _
   | exact LeO.none _
   | refine LeO.ite ?_ ?_
   | refine LeO.bind ?_ (fun _ => ?_)
def review_Apply.T4 : Bool × List (List Nat × List Nat) := (true, [([], []), ([0], [0]), ([], []), ([2], [2]), ([], []), ([4], [4]), ([5], [5]), ([], []), ([7], [7]), ([8, 6], [8]), ([], []), ([10], [10]), ([11, 9], [11]), ([], []), ([13], [13]), ([12, 14, 12], [12, 14]), ([1, 3, 6, 9, 15], [1, 3, 6, 9, 15]), ([], []), ([17, 16, 15, 0, 1, 2, 3, 4, 5, 6, 7, 8, 9, 10, 11, 12, 13, 14, 15, 16, 17], [16, 17])])
def review_Apply.B4 : List Nat := [0, 1, 0, 4, 0, 16, 48, 0, 128, 496, 0, 1024, 4080, 0, 8192, 32752, 65535, 0, 262143]
theorem review_Apply.tab4 : rtab .any (opsOf Try.f13 4) = review_Apply.T4 := by kernel_rfl
theorem review_Apply.bits4 : waitsOk review_Apply.T4.2 review_Apply.B4 = true := by kernel_rfl
set_option maxHeartbeats 8000000 in
set_option maxRecDepth 100000 in
theorem review_Apply.calls (k : Nat) (a0_0 : Int) (a0_1 : Int) (A0_2 : Option Addr) (c0_2 : Nat) (l0_2 : List Int) (A0_3 : Option Addr) (c0_3 : Nat) (l0_3 : List Int) (A0_4 : Option Addr) (c0_4 : Nat) (l0_4 : List (S34)) (a1_0 : Int) (a1_1 : Int) (a1_2 : Int) (a1_3 : Int) (r1 : Int) (r2 : Int) (r3 : List Int) (r4 : List Int) (r5 : List (S34)) (r6 : Int) (w : World) (hr0_2 : Kd.C (Kd.int .i64) w A0_2 l0_2.length l0_2) (hc0_2 : l0_2.length ≤ c0_2) (hr0_3 : Kd.C (Kd.int .i64) w A0_3 l0_3.length l0_3) (hc0_3 : l0_3.length ≤ c0_3) (hr0_4 : Kd.C k34 w A0_4 l0_4.length l0_4) (hc0_4 : l0_4.length ≤ c0_4) (h : review_Apply.f k a0_0 a0_1 l0_2 l0_3 l0_4 a1_0 a1_1 a1_2 a1_3 = some (r1, r2, r3, r4, r5, r6)) :
  Calls Try.prog 13 #[.agg #[.int .i64 a0_0, .int .i64 a0_1, .slice A0_2 l0_2.length c0_2, .slice A0_3 l0_3.length c0_3, .slice A0_4 l0_4.length c0_4], .agg #[.int .i64 a1_0, .int .i64 a1_1, .int .i64 a1_2, .int .i64 a1_3]] w fun e w' => ∃ v2_ v3_ v4_ : Value, e = .returned (.tuple #[.agg #[.int .i64 r1, .int .i64 r2, v2_, v3_, v4_], .int .i64 r6]) ∧ Kd.R (Kd.int .i64) 3 w' w.heap.size (fun k_ => some k_ ≠ (v3_ : Value).ownBlock) v2_ r3 ∧ Kd.R (Kd.int .i64) 3 w' w.heap.size (fun k_ => some k_ ≠ (v2_ : Value).ownBlock) v3_ r4 ∧ Kd.R k34 34 w' w.heap.size (fun _ => True) v4_ r5 ∧ Below w.heap.size w w' := by
 have hu25 := Try.underlying25
 have hu34 := Try.underlying34
 have HR0_2 := Aside0.mk hr0_2
 have HC0_2 := Aside0.mk hc0_2
 clear hr0_2 hc0_2
 have HR0_3 := Aside0.mk hr0_3
 have HC0_3 := Aside0.mk hc0_3
 clear hr0_3 hc0_3
 have HR0_4 := Aside0.mk hr0_4
 have HC0_4 := Aside0.mk hc0_4
 clear hr0_4 hc0_4
 have HB := Aside0.mk (Below.refl w.heap.size w)
 have H : ((review_Allowed.f k a0_0 a0_1 l0_2 l0_3 l0_4 a1_0 a1_1 a1_2 a1_3).bind fun t145 => (if t145 = 0 then ((slices_Clone_int_int.f l0_2).bind fun t146 => ((slices_Clone_int_int.f l0_3).bind fun t149 => ((api_Action.f l0_4).bind fun t152 => ((some (([(⟨a1_0, a1_1, a1_2, a1_3⟩ : S34)] : List (S34)) : List (S34))).bind fun y155 => (if t152.length + y155.length < 4398046511104 then (review_Apply.j0 k a1_0 (a1_0 == 1) a1_0 a1_1 a1_2 a1_3 a0_0 a0_1 t146 t149 (t152 ++ y155)) else (none)))))) else (some (0, 0, ([] : List Int), ([] : List Int), ([] : List (S34)), t145)))) = some (r1, r2, r3, r4, r5, r6) := h
 clear h
 replace H := Option.bind_eq_some_iff.mp H
 obtain ⟨t145, A30, H⟩ := H
 replace H : (if t145 = 0 then ((slices_Clone_int_int.f l0_2).bind fun t146 => ((slices_Clone_int_int.f l0_3).bind fun t149 => ((api_Action.f l0_4).bind fun t152 => ((some (([(⟨a1_0, a1_1, a1_2, a1_3⟩ : S34)] : List (S34)) : List (S34))).bind fun y155 => (if t152.length + y155.length < 4398046511104 then (review_Apply.j0 k a1_0 (a1_0 == 1) a1_0 a1_1 a1_2 a1_3 a0_0 a0_1 t146 t149 (t152 ++ y155)) else (none)))))) else (some (0, 0, ([] : List Int), ([] : List Int), ([] : List (S34)), t145))) = some (r1, r2, r3, r4, r5, r6) := H
 have A3 := Aside0.mk A30
 clear A30
 by_cases c4 : t145 = 0
 ·
  rw [if_pos c4] at H
  have c4b0 : (t145 == 0) = true := beq_iff_eq.mpr c4
  have c4b1 : (t145 != 0) = false := bne_eq_false_iff_eq.mpr c4
  clear c4
  replace H := Option.bind_eq_some_iff.mp H
  obtain ⟨t146, A50, H⟩ := H
  replace H : ((slices_Clone_int_int.f l0_3).bind fun t149 => ((api_Action.f l0_4).bind fun t152 => ((some (([(⟨a1_0, a1_1, a1_2, a1_3⟩ : S34)] : List (S34)) : List (S34))).bind fun y155 => (if t152.length + y155.length < 4398046511104 then (review_Apply.j0 k a1_0 (a1_0 == 1) a1_0 a1_1 a1_2 a1_3 a0_0 a0_1 t146 t149 (t152 ++ y155)) else (none))))) = some (r1, r2, r3, r4, r5, r6) := H
  have A5 := Aside0.mk A50
  clear A50
  replace H := Option.bind_eq_some_iff.mp H
  obtain ⟨t149, A60, H⟩ := H
  replace H : ((api_Action.f l0_4).bind fun t152 => ((some (([(⟨a1_0, a1_1, a1_2, a1_3⟩ : S34)] : List (S34)) : List (S34))).bind fun y155 => (if t152.length + y155.length < 4398046511104 then (review_Apply.j0 k a1_0 (a1_0 == 1) a1_0 a1_1 a1_2 a1_3 a0_0 a0_1 t146 t149 (t152 ++ y155)) else (none)))) = some (r1, r2, r3, r4, r5, r6) := H
  have A6 := Aside0.mk A60
  clear A60
  replace H := Option.bind_eq_some_iff.mp H
  obtain ⟨t152, A70, H⟩ := H
  replace H : ((some (([(⟨a1_0, a1_1, a1_2, a1_3⟩ : S34)] : List (S34)) : List (S34))).bind fun y155 => (if t152.length + y155.length < 4398046511104 then (review_Apply.j0 k a1_0 (a1_0 == 1) a1_0 a1_1 a1_2 a1_3 a0_0 a0_1 t146 t149 (t152 ++ y155)) else (none))) = some (r1, r2, r3, r4, r5, r6) := H
  have A7 := Aside0.mk A70
  clear A70
  obtain ⟨y155, hy155⟩ : ∃ y_ : List (S34), y_ = (([(⟨a1_0, a1_1, a1_2, a1_3⟩ : S34)] : List (S34))) := ⟨_, rfl⟩
  replace H : (if t152.length + y155.length < 4398046511104 then (review_Apply.j0 k a1_0 (a1_0 == 1) a1_0 a1_1 a1_2 a1_3 a0_0 a0_1 t146 t149 (t152 ++ y155)) else (none)) = some (r1, r2, r3, r4, r5, r6) := by first | (rw [hy155]; with_reducible exact H) | (have H2_ := (Option.bind_some _ _).symm.trans H; rw [hy155]; with_reducible exact H2_) | (have H2_ := (Option.bind_some _ _).symm.trans H; with_reducible exact H2_) | with_reducible exact H | (rw [hy155]; exact H) | exact H
  have Ny155 := Aside0.mk hy155
  clear hy155
  by_cases c8 : t152.length + y155.length < 4398046511104
  ·
   rw [if_pos c8] at H
   have LMc8 := Aside0.mk c8
   clear c8
   obtain ⟨y158, hy158⟩ : ∃ y_ : List (S34), y_ = (t152 ++ y155) := ⟨_, rfl⟩
   replace H : (review_Apply.j0 k a1_0 (a1_0 == 1) a1_0 a1_1 a1_2 a1_3 a0_0 a0_1 t146 t149 y158) = some (r1, r2, r3, r4, r5, r6) := by first | (rw [hy158]; with_reducible exact H) | (have H2_ := (Option.bind_some _ _).symm.trans H; rw [hy158]; with_reducible exact H2_) | (have H2_ := (Option.bind_some _ _).symm.trans H; with_reducible exact H2_) | with_reducible exact H | (rw [hy158]; exact H) | exact H
   have Ny158 := Aside0.mk hy158
   clear hy158
   have HC9 := Aside0.mk H
   clear H
   go_enter Try.func13, Try.ntmps13
   try go_wp2_with (first | ((with_reducible refine gate_dst (N := 2) rfl ?_); refine box_event ?hg (N := 2) ?hd (cs := #[.int .i64 a0_0, .int .i64 a0_1, .slice A0_2 l0_2.length c0_2, .slice A0_3 l0_3.length c0_3, .slice A0_4 l0_4.length c0_4]) (t := 25) ?hr ?_; (case hd => rfl); (case hg => rfl); (case hr => first | (go_simp; done) | (go_simp; rfl)); intro gb142 hg w10 hbox hb; have n0_ := Aside0.mk (below_step (by repeat (first | (with_reducible first | exact HB.out | apply below_alloc | apply pw_below_drewN | apply below_drew1) | exact HB.out)) hb); have n1_ := Aside0.mk (hbox); have n2_ := Aside0.mk ((by rw [hg]; exact (below_size (by repeat (first | (with_reducible first | exact HB.out | apply below_alloc | apply pw_below_drewN | apply below_drew1) | exact HB.out))) : w.heap.size ≤ gb142)); have n3_ := Aside0.mk ((by rw [hg]; exact (below_size (by repeat (first | (with_reducible first | exact HB.out | apply below_alloc | apply pw_below_drewN | apply below_drew1) | exact HB.out))) : w.heap.size ≤ gb142)); clear HB; have HB := n0_; have BK142 := n1_; have GW142 := n2_; have GE142 := n3_; clear n0_ n1_ n2_ n3_; clear hb hbox hg) | ((with_reducible refine gate_dst (N := 3) rfl ?_); refine box_event ?hg (N := 3) ?hd (cs := #[.int .i64 a1_0, .int .i64 a1_1, .int .i64 a1_2, .int .i64 a1_3]) (t := 34) ?hr ?_; (case hd => rfl); (case hg => rfl); (case hr => first | (go_simp; done) | (go_simp; rfl)); intro gb143 hg w11 hbox hb; have n0_ := Aside0.mk (blk_below (g := gb142) (o := .cells #[.int .i64 a0_0, .int .i64 a0_1, .slice A0_2 l0_2.length c0_2, .slice A0_3 l0_3.length c0_3, .slice A0_4 l0_4.length c0_4] 25 (0, 0)) (by (with_reducible repeat (first | refine blk_drewN ?_ _ | refine blk_drew ?_ | refine blk_alloc ?_ _)); exact BK142.out) hb); have n1_ := Aside0.mk (below_step (by repeat (first | (with_reducible first | exact HB.out | apply below_alloc | apply pw_below_drewN | apply below_drew1 | refine below_set ?_ GE142.out) | exact HB.out)) hb); have n2_ := Aside0.mk (hbox); have n3_ := Aside0.mk ((by rw [hg]; exact (below_size (by repeat (first | (with_reducible first | exact HB.out | apply below_alloc | apply pw_below_drewN | apply below_drew1 | refine below_set ?_ GE142.out) | exact HB.out))) : w.heap.size ≤ gb143)); have n4_ := Aside0.mk ((by rw [hg]; exact (below_size (by repeat (first | (with_reducible first | exact HB.out | apply below_alloc | apply pw_below_drewN | apply below_drew1 | refine below_set ?_ GE142.out) | exact HB.out))) : w.heap.size ≤ gb143)); have n5_ := Aside0.mk ((by rw [hg]; exact Nat.ne_of_lt (blk_lt (g := gb142) (o := .cells #[.int .i64 a0_0, .int .i64 a0_1, .slice A0_2 l0_2.length c0_2, .slice A0_3 l0_3.length c0_3, .slice A0_4 l0_4.length c0_4] 25 (0, 0)) (by (with_reducible repeat (first | refine blk_drewN ?_ _ | refine blk_drew ?_ | refine blk_alloc ?_ _)); exact BK142.out)) : gb142 ≠ gb143)); have n6_ := Aside0.mk ((by rw [hg]; exact Nat.ne_of_gt (blk_lt (g := gb142) (o := .cells #[.int .i64 a0_0, .int .i64 a0_1, .slice A0_2 l0_2.length c0_2, .slice A0_3 l0_3.length c0_3, .slice A0_4 l0_4.length c0_4] 25 (0, 0)) (by (with_reducible repeat (first | refine blk_drewN ?_ _ | refine blk_drew ?_ | refine blk_alloc ?_ _)); exact BK142.out)) : gb143 ≠ gb142)); clear BK142; clear HB; have BK142 := n0_; have HB := n1_; have BK143 := n2_; have GW143 := n3_; have GE143 := n4_; have NB142_143 := n5_; have NB143_142 := n6_; clear n0_ n1_ n2_ n3_ n4_ n5_ n6_; clear hb hbox hg) | ((with_reducible refine gate_dst (N := 4) rfl ?_); refine box_event ?hg (N := 4) ?hd (cs := #[.int .i64 0, .int .i64 0, .slice none 0 0, .slice none 0 0, .slice none 0 0]) (t := 25) ?hr ?_; (case hd => rfl); (case hg => rfl); (case hr => first | (go_simp; done) | (go_simp; rfl)); intro gb144 hg w12 hbox hb; have n0_ := Aside0.mk (blk_below (g := gb142) (o := .cells #[.int .i64 a0_0, .int .i64 a0_1, .slice A0_2 l0_2.length c0_2, .slice A0_3 l0_3.length c0_3, .slice A0_4 l0_4.length c0_4] 25 (0, 0)) (by (with_reducible repeat (first | refine blk_drewN ?_ _ | refine blk_drew ?_ | refine blk_alloc ?_ _)); exact BK142.out) hb); have n1_ := Aside0.mk (blk_below (g := gb143) (o := .cells #[.int .i64 a1_0, .int .i64 a1_1, .int .i64 a1_2, .int .i64 a1_3] 34 (0, 0)) (by (with_reducible repeat (first | refine blk_drewN ?_ _ | refine blk_drew ?_ | refine blk_alloc ?_ _)); exact BK143.out) hb); have n2_ := Aside0.mk (below_step (by repeat (first | (with_reducible first | exact HB.out | apply below_alloc | apply pw_below_drewN | apply below_drew1 | refine below_set ?_ GE142.out | refine below_set ?_ GE143.out) | exact HB.out)) hb); have n3_ := Aside0.mk (hbox); have n4_ := Aside0.mk ((by rw [hg]; exact (below_size (by repeat (first | (with_reducible first | exact HB.out | apply below_alloc | apply pw_below_drewN | apply below_drew1 | refine below_set ?_ GE142.out | refine below_set ?_ GE143.out) | exact HB.out))) : w.heap.size ≤ gb144)); have n5_ := Aside0.mk ((by rw [hg]; exact (below_size (by repeat (first | (with_reducible first | exact HB.out | apply below_alloc | apply pw_below_drewN | apply below_drew1 | refine below_set ?_ GE142.out | refine below_set ?_ GE143.out) | exact HB.out))) : w.heap.size ≤ gb144)); have n6_ := Aside0.mk ((by rw [hg]; exact Nat.ne_of_lt (blk_lt (g := gb142) (o := .cells #[.int .i64 a0_0, .int .i64 a0_1, .slice A0_2 l0_2.length c0_2, .slice A0_3 l0_3.length c0_3, .slice A0_4 l0_4.length c0_4] 25 (0, 0)) (by (with_reducible repeat (first | refine blk_drewN ?_ _ | refine blk_drew ?_ | refine blk_alloc ?_ _)); exact BK142.out)) : gb142 ≠ gb144)); have n7_ := Aside0.mk ((by rw [hg]; exact Nat.ne_of_gt (blk_lt (g := gb142) (o := .cells #[.int .i64 a0_0, .int .i64 a0_1, .slice A0_2 l0_2.length c0_2, .slice A0_3 l0_3.length c0_3, .slice A0_4 l0_4.length c0_4] 25 (0, 0)) (by (with_reducible repeat (first | refine blk_drewN ?_ _ | refine blk_drew ?_ | refine blk_alloc ?_ _)); exact BK142.out)) : gb144 ≠ gb142)); have n8_ := Aside0.mk ((by rw [hg]; exact Nat.ne_of_lt (blk_lt (g := gb143) (o := .cells #[.int .i64 a1_0, .int .i64 a1_1, .int .i64 a1_2, .int .i64 a1_3] 34 (0, 0)) (by (with_reducible repeat (first | refine blk_drewN ?_ _ | refine blk_drew ?_ | refine blk_alloc ?_ _)); exact BK143.out)) : gb143 ≠ gb144)); have n9_ := Aside0.mk ((by rw [hg]; exact Nat.ne_of_gt (blk_lt (g := gb143) (o := .cells #[.int .i64 a1_0, .int .i64 a1_1, .int .i64 a1_2, .int .i64 a1_3] 34 (0, 0)) (by (with_reducible repeat (first | refine blk_drewN ?_ _ | refine blk_drew ?_ | refine blk_alloc ?_ _)); exact BK143.out)) : gb144 ≠ gb143)); clear BK142; clear BK143; clear HB; have BK142 := n0_; have BK143 := n1_; have HB := n2_; have BK144 := n3_; have GW144 := n4_; have GE144 := n5_; have NB142_144 := n6_; have NB144_142 := n7_; have NB143_144 := n8_; have NB144_143 := n9_; clear n0_ n1_ n2_ n3_ n4_ n5_ n6_ n7_ n8_ n9_; clear hb hbox hg; have hnb13 := NB142_143.out; have hnc13 := NB143_142.out; have hnb14 := NB142_144.out; have hnc14 := NB144_142.out; have hcz15_0 : w12.cell? ⟨gb142, 0, none⟩ = some (.int .i64 a0_0) := (blk_cell BK142.out 0).trans rfl; have hcz15_1 : w12.cell? ⟨gb142, 1, none⟩ = some (.int .i64 a0_1) := (blk_cell BK142.out 1).trans rfl; have hcz15_2 : w12.cell? ⟨gb142, 2, none⟩ = some (.slice A0_2 l0_2.length c0_2) := (blk_cell BK142.out 2).trans rfl; have hcz15_3 : w12.cell? ⟨gb142, 3, none⟩ = some (.slice A0_3 l0_3.length c0_3) := (blk_cell BK142.out 3).trans rfl; have hcz15_4 : w12.cell? ⟨gb142, 4, none⟩ = some (.slice A0_4 l0_4.length c0_4) := (blk_cell BK142.out 4).trans rfl; have hfz15_0 := blk_frozen BK142.out 0; have hfz15_1 := blk_frozen BK142.out 1; have hfz15_2 := blk_frozen BK142.out 2; have hfz15_3 := blk_frozen BK142.out 3; have hfz15_4 := blk_frozen BK142.out 4; have hnb16 := NB143_144.out; have hnc16 := NB144_143.out; have hcz17_0 : w12.cell? ⟨gb143, 0, none⟩ = some (.int .i64 a1_0) := (blk_cell BK143.out 0).trans rfl; have hcz17_1 : w12.cell? ⟨gb143, 1, none⟩ = some (.int .i64 a1_1) := (blk_cell BK143.out 1).trans rfl; have hcz17_2 : w12.cell? ⟨gb143, 2, none⟩ = some (.int .i64 a1_2) := (blk_cell BK143.out 2).trans rfl; have hcz17_3 : w12.cell? ⟨gb143, 3, none⟩ = some (.int .i64 a1_3) := (blk_cell BK143.out 3).trans rfl; have hfz17_0 := blk_frozen BK143.out 0; have hfz17_1 := blk_frozen BK143.out 1; have hfz17_2 := blk_frozen BK143.out 2; have hfz17_3 := blk_frozen BK143.out 3) | ((with_reducible refine gate_callee (f := 18) rfl ?_); refine goesL_ (some 10) rfl rfl Try.func18 (by kernel_rfl) rfl #[.agg #[.int .i64 a0_0, .int .i64 a0_1, .slice A0_2 l0_2.length c0_2, .slice A0_3 l0_3.length c0_3, .slice A0_4 l0_4.length c0_4], .agg #[.int .i64 a1_0, .int .i64 a1_1, .int .i64 a1_2, .int .i64 a1_3]] rfl (by (try simp only [List.map_toArray, List.map_cons, List.map_nil]); first | done | rfl | (simp only [List.length_drop, List.length_take]; rfl)) ?_; (with_reducible refine (review_Allowed.calls k a0_0 a0_1 _ _ l0_2 _ _ l0_3 _ _ l0_4 a1_0 a1_1 a1_2 a1_3 t145 _ ?side1 ?side2 ?side3 ?side4 ?side5 ?side6 A3.out).mono ?_); (case side1 => repeat (first | exact (Kd.C_below HR0_2.out HB.out) | (with_reducible refine Kd.C_alloc ?_ _) | (with_reducible refine Kd.C_drewN ?_ _) | (with_reducible refine Kd.C_drew ?_))); (case side2 => exact HC0_2.out); (case side3 => repeat (first | exact (Kd.C_below HR0_3.out HB.out) | (with_reducible refine Kd.C_alloc ?_ _) | (with_reducible refine Kd.C_drewN ?_ _) | (with_reducible refine Kd.C_drew ?_))); (case side4 => exact HC0_3.out); (case side5 => repeat (first | exact (Kd.C_below HR0_4.out HB.out) | (with_reducible refine Kd.C_alloc ?_ _) | (with_reducible refine Kd.C_drewN ?_ _) | (with_reducible refine Kd.C_drew ?_))); (case side6 => exact HC0_4.out); rintro e w18 ⟨rfl, hb⟩; refine ⟨_, rfl, ?_⟩; have n0_ := Aside0.mk (blk_below (g := gb142) (o := .cells #[.int .i64 a0_0, .int .i64 a0_1, .slice A0_2 l0_2.length c0_2, .slice A0_3 l0_3.length c0_3, .slice A0_4 l0_4.length c0_4] 25 (0, 0)) (by (with_reducible repeat (first | refine blk_drewN ?_ _ | refine blk_drew ?_ | refine blk_alloc ?_ _)); exact BK142.out) hb); have n1_ := Aside0.mk (blk_below (g := gb143) (o := .cells #[.int .i64 a1_0, .int .i64 a1_1, .int .i64 a1_2, .int .i64 a1_3] 34 (0, 0)) (by (with_reducible repeat (first | refine blk_drewN ?_ _ | refine blk_drew ?_ | refine blk_alloc ?_ _)); exact BK143.out) hb); have n2_ := Aside0.mk (blk_below (g := gb144) (o := .cells #[.int .i64 0, .int .i64 0, .slice none 0 0, .slice none 0 0, .slice none 0 0] 25 (0, 0)) (by (with_reducible repeat (first | refine blk_drewN ?_ _ | refine blk_drew ?_ | refine blk_alloc ?_ _)); exact BK144.out) hb); have n3_ := Aside0.mk (below_step (by repeat (first | (with_reducible first | exact HB.out | apply below_alloc | apply pw_below_drewN | apply below_drew1 | refine below_set ?_ GE142.out | refine below_set ?_ GE143.out | refine below_set ?_ GE144.out) | exact HB.out)) hb); clear BK142; clear BK143; clear BK144; clear HB; have BK142 := n0_; have BK143 := n1_; have BK144 := n2_; have HB := n3_; clear n0_ n1_ n2_ n3_; (try clear hb); (try clear hb2); (try clear hk); (try clear hi)))
   have n0_ := Aside0.mk (blk_drew BK142.out)
   have n1_ := Aside0.mk (blk_drew BK143.out)
   have n2_ := Aside0.mk (blk_drew BK144.out)
   have n3_ := Aside0.mk (below_drew1 HB.out)
   clear BK142
   clear BK143
   clear BK144
   clear HB
   have BK142 := n0_
   have BK143 := n1_
   have BK144 := n2_
   have HB := n3_
   clear n0_ n1_ n2_ n3_
   refine start_ (n := 19) (S := fun w' => True) (ds := []) #[false, false, false, false, false, false, false, false, false, false, false, false, false, false, false, false, false, false, false] (by kernel_rfl) rfl rfl trivial (fun hHeld => ?_); refine with_tabW review_Apply.tab4 review_Apply.bits4 (fun HT_ HW_ => ?_)
   generalize w18.drew = w19 at BK142 BK143 BK144 HB hHeld ⊢
   refine pure_ (i := 0) (N := some 15) (v := ?_) (a' := ?_) #[true, false, false, false, false, false, false, false, false, false, false, false, false, false, false, false, false, false, false] rfl rfl (any_of HT_.out (by kernel_rfl)) (fun _ _ _ h => h) (Or.inl ⟨by rfl, ?_⟩) ?_ ?_
   rotate_left
   ·
    intro w'
    go_simp
    with_reducible rfl
   rotate_left
   ·
    simp only [Act.put, List.setIfInBounds_toArray, List.set_cons_zero, List.set_cons_succ, i64_w, i32_w]
    rfl
   refine pure_ (i := 2) (N := some 17) (v := ?_) (a' := ?_) #[true, false, true, false, false, false, false, false, false, false, false, false, false, false, false, false, false, false, false] rfl rfl (any_of HT_.out (by kernel_rfl)) (fun _ _ _ h => h) (Or.inl ⟨by rfl, ?_⟩) ?_ ?_
   rotate_left
   ·
    intro w'
    go_simp
    with_reducible rfl
   rotate_left
   ·
    simp only [Act.put, List.setIfInBounds_toArray, List.set_cons_zero, List.set_cons_succ, i64_w, i32_w]
    rfl
   refine pure_ (i := 4) (N := some 19) (v := ?_) (a' := ?_) #[true, false, true, false, true, false, false, false, false, false, false, false, false, false, false, false, false, false, false] rfl rfl (any_of HT_.out (by kernel_rfl)) (fun _ _ _ h => h) (Or.inl ⟨by rfl, ?_⟩) ?_ ?_
   rotate_left
   ·
    intro w'
    go_simp
    with_reducible rfl
   rotate_left
   ·
    simp only [Act.put, List.setIfInBounds_toArray, List.set_cons_zero, List.set_cons_succ, i64_w, i32_w]
    rfl
   refine pure_ (i := 7) (N := some 22) (v := ?_) (a' := ?_) #[true, false, true, false, true, false, false, true, false, false, false, false, false, false, false, false, false, false, false] rfl rfl (any_of HT_.out (by kernel_rfl)) (fun _ _ _ h => h) (Or.inl ⟨by rfl, ?_⟩) ?_ ?_
   rotate_left
   ·
    intro w'
    go_simp
    with_reducible rfl
   rotate_left
   ·
    simp only [Act.put, List.setIfInBounds_toArray, List.set_cons_zero, List.set_cons_succ, i64_w, i32_w]
    rfl
   refine pure_ (i := 10) (N := some 25) (v := ?_) (a' := ?_) #[true, false, true, false, true, false, false, true, false, false, true, false, false, false, false, false, false, false, false] rfl rfl (any_of HT_.out (by kernel_rfl)) (fun _ _ _ h => h) (Or.inl ⟨by rfl, ?_⟩) ?_ ?_
   rotate_left
   ·
    intro w'
    go_simp
    with_reducible rfl
   rotate_left
   ·
    simp only [Act.put, List.setIfInBounds_toArray, List.set_cons_zero, List.set_cons_succ, i64_w, i32_w]
    rfl
   refine inv_at [1, 3, 5, 6, 8, 9, 11, 12, 13, 14, 15, 16, 17, 18] (fun a0_ b a w' => ∃ (v147 : Value) (v150 : Value) (v153 : Value) (v156 : Value) (v159 : Value) (gb161 : Nat) (m16_ : Value) (m17_ : Value), a = putSel a0_ b [(1, 16, .int .i64 a0_0), (3, 18, .int .i64 a0_1), (5, 20, .slice A0_2 l0_2.length c0_2), (6, 21, v147), (8, 23, .slice A0_3 l0_3.length c0_3), (9, 24, v150), (11, 26, .slice A0_4 l0_4.length c0_4), (12, 27, v153), (13, 28, .agg #[.int .i64 a1_0, .int .i64 a1_1, .int .i64 a1_2, .int .i64 a1_3]), (14, 29, v156), (15, 30, v159), (16, 31, m16_), (17, 7, m17_)] ∧ (w'.heap[gb142]? = some (.cells #[.int .i64 a0_0, .int .i64 a0_1, .slice A0_2 l0_2.length c0_2, .slice A0_3 l0_3.length c0_3, .slice A0_4 l0_4.length c0_4] 25 (0, 0))) ∧ (w'.heap[gb143]? = some (.cells #[.int .i64 a1_0, .int .i64 a1_1, .int .i64 a1_2, .int .i64 a1_3] 34 (0, 0))) ∧ (w'.heap[gb144]? = some (.cells #[.int .i64 0, .int .i64 0, .slice none 0 0, .slice none 0 0, .slice none 0 0] 25 (0, 0))) ∧ (Below w.heap.size w w') ∧ (b 6 = true → Kd.R (Kd.int .i64) 3 w' w.heap.size (fun _ => True) v147 t146) ∧ (b 9 = true → Kd.R (Kd.int .i64) 3 w' w.heap.size (fun _ => True) v150 t149) ∧ (b 12 = true → b 15 = false → Kd.R k34 34 w' w.heap.size (fun k_ => k_ ≠ gb143) v153 t152) ∧ (b 14 = true → b 15 = false → Kd.R k34 34 w' w.heap.size (fun k_ => k_ ≠ gb143) v156 y155) ∧ (b 15 = true → Kd.R k34 34 w' w.heap.size (fun k_ => k_ ≠ gb143) v159 y158) ∧ (b 17 = true → b 18 = false → w'.heap[gb161]? = some (.cells #[.int .i64 0, .int .i64 0, .slice none 0 0, .slice none 0 0, .slice none 0 0] 25 (0, 0))) ∧ (b 17 = true → w.heap.size ≤ gb161) ∧ (b 17 = true → w.heap.size ≤ gb161) ∧ (b 17 = true → gb142 ≠ gb161) ∧ (b 17 = true → gb161 ≠ gb142) ∧ (b 17 = true → gb143 ≠ gb161) ∧ (b 17 = true → gb161 ≠ gb143) ∧ (b 17 = true → gb144 ≠ gb161) ∧ (b 17 = true → gb161 ≠ gb144) ∧ (b 18 = true → w'.heap[gb161]? = some (.cells #[.int .i64 a0_0, .int .i64 a0_1, v147, v150, v159] 25 (0, 0))) ∧ (b 16 = true → (m16_ : Value) = .agg #[.int .i64 a0_0, .int .i64 a0_1, v147, v150, v159]) ∧ (b 17 = true → (m17_ : Value) = .pointer (some ⟨gb161, 0, none⟩)) ∧ (b 6 = true → b 9 = true → v147.ownBlock = none ∨ v147.ownBlock ≠ v150.ownBlock)) HT_.out HW_.out (by kernel_rfl) (by kernel_rfl) ?_ ?_ ?_
   ·
    exact ⟨.bool false, .bool false, .bool false, .bool false, .bool false, 0, .bool false, .bool false, by simp only [putSel, Bool.false_eq_true, if_false], BK142.out, BK143.out, BK144.out, HB.out, fun h_ => absurd h_ (by decide), fun h_ => absurd h_ (by decide), fun h_ => absurd h_ (by decide), fun h_ => absurd h_ (by decide), fun h_ => absurd h_ (by decide), fun h_ => absurd h_ (by decide), fun h_ => absurd h_ (by decide), fun h_ => absurd h_ (by decide), fun h_ => absurd h_ (by decide), fun h_ => absurd h_ (by decide), fun h_ => absurd h_ (by decide), fun h_ => absurd h_ (by decide), fun h_ => absurd h_ (by decide), fun h_ => absurd h_ (by decide), fun h_ => absurd h_ (by decide), fun h_ => absurd h_ (by decide), fun h_ => absurd h_ (by decide), fun h_ => absurd h_ (by decide)⟩
   ·
    skip
    clear BK142 BK143 BK144 HB
    refine steps_cons ?_ ?_
    ·
     rintro b a w' ⟨v147, v150, v153, v156, v159, gb161, m16_, m17_, ha, Q_BK142, Q_BK143, Q_BK144, Q_HB, Q_HO148, Q_HO151, Q_HO154, Q_HO157, Q_HO160, Q_BK161, Q_GW161, Q_GE161, Q_NB142_161, Q_NB161_142, Q_NB143_161, Q_NB161_143, Q_NB144_161, Q_NB161_144, Q_BK161_e18, Q_X16_, Q_X17_, Q_SEP⟩ hb_ hon hoff
     refine ⟨_, rfl, fun K hK => ?_⟩
     have e15 : a.tmps[15]? = some (.pointer (some ⟨gb142, 0, none⟩)) := by rw [ha]; exact (putSel_off rfl).trans rfl
     replace ha := Aside0.mk ha
     have BK142 := Aside0.mk Q_BK142
     have BK143 := Aside0.mk Q_BK143
     have BK144 := Aside0.mk Q_BK144
     have HB := Aside0.mk Q_HB
     have hc0_ : w'.cell? ⟨gb142, 0, none⟩ = some (.int .i64 a0_0) := (blk_cell BK142.out 0).trans rfl
     have hc1_ : w'.cell? ⟨gb142, 1, none⟩ = some (.int .i64 a0_1) := (blk_cell BK142.out 1).trans rfl
     have hc2_ : w'.cell? ⟨gb142, 2, none⟩ = some (.slice A0_2 l0_2.length c0_2) := (blk_cell BK142.out 2).trans rfl
     have hc3_ : w'.cell? ⟨gb142, 3, none⟩ = some (.slice A0_3 l0_3.length c0_3) := (blk_cell BK142.out 3).trans rfl
     have hc4_ : w'.cell? ⟨gb142, 4, none⟩ = some (.slice A0_4 l0_4.length c0_4) := (blk_cell BK142.out 4).trans rfl
     refine value_ (w1 := w') (v := .int .i64 a0_0) (by rfl) rfl ?_ ?_
     ·
      go_simp
      (try simp only [i64_w])
      try rfl
     refine hK.out _ _ ⟨v147, v150, v153, v156, v159, gb161, m16_, m17_, (by rw [ha.out]; exact putSel_upk 0 hb_ rfl rfl rfl), Q_BK142, Q_BK143, Q_BK144, Q_HB, Q_HO148, Q_HO151, Q_HO154, Q_HO157, Q_HO160, Q_BK161, Q_GW161, Q_GE161, Q_NB142_161, Q_NB161_142, Q_NB143_161, Q_NB161_143, Q_NB144_161, Q_NB161_144, fun h0_ => absurd ((hoff 18 (by kernel_rfl)).symm.trans h0_) (by decide), fun h0_ => absurd ((hoff 16 (by kernel_rfl)).symm.trans h0_) (by decide), Q_X17_, Q_SEP⟩
    refine steps_cons ?_ ?_
    ·
     rintro b a w' ⟨v147, v150, v153, v156, v159, gb161, m16_, m17_, ha, Q_BK142, Q_BK143, Q_BK144, Q_HB, Q_HO148, Q_HO151, Q_HO154, Q_HO157, Q_HO160, Q_BK161, Q_GW161, Q_GE161, Q_NB142_161, Q_NB161_142, Q_NB143_161, Q_NB161_143, Q_NB144_161, Q_NB161_144, Q_BK161_e18, Q_X16_, Q_X17_, Q_SEP⟩ hb_ hon hoff
     refine ⟨_, rfl, fun K hK => ?_⟩
     have e17 : a.tmps[17]? = some (.pointer (some ⟨gb142, 1, none⟩)) := by rw [ha]; exact (putSel_off rfl).trans rfl
     replace ha := Aside0.mk ha
     have BK142 := Aside0.mk Q_BK142
     have BK143 := Aside0.mk Q_BK143
     have BK144 := Aside0.mk Q_BK144
     have HB := Aside0.mk Q_HB
     have hc0_ : w'.cell? ⟨gb142, 0, none⟩ = some (.int .i64 a0_0) := (blk_cell BK142.out 0).trans rfl
     have hc1_ : w'.cell? ⟨gb142, 1, none⟩ = some (.int .i64 a0_1) := (blk_cell BK142.out 1).trans rfl
     have hc2_ : w'.cell? ⟨gb142, 2, none⟩ = some (.slice A0_2 l0_2.length c0_2) := (blk_cell BK142.out 2).trans rfl
     have hc3_ : w'.cell? ⟨gb142, 3, none⟩ = some (.slice A0_3 l0_3.length c0_3) := (blk_cell BK142.out 3).trans rfl
     have hc4_ : w'.cell? ⟨gb142, 4, none⟩ = some (.slice A0_4 l0_4.length c0_4) := (blk_cell BK142.out 4).trans rfl
     refine value_ (w1 := w') (v := .int .i64 a0_1) (by rfl) rfl ?_ ?_
     ·
      go_simp
      (try simp only [i64_w])
      try rfl
     refine hK.out _ _ ⟨v147, v150, v153, v156, v159, gb161, m16_, m17_, (by rw [ha.out]; exact putSel_upk 1 hb_ rfl rfl rfl), Q_BK142, Q_BK143, Q_BK144, Q_HB, Q_HO148, Q_HO151, Q_HO154, Q_HO157, Q_HO160, Q_BK161, Q_GW161, Q_GE161, Q_NB142_161, Q_NB161_142, Q_NB143_161, Q_NB161_143, Q_NB144_161, Q_NB161_144, fun h0_ => absurd ((hoff 18 (by kernel_rfl)).symm.trans h0_) (by decide), fun h0_ => absurd ((hoff 16 (by kernel_rfl)).symm.trans h0_) (by decide), Q_X17_, Q_SEP⟩
    refine steps_cons ?_ ?_
    ·
     rintro b a w' ⟨v147, v150, v153, v156, v159, gb161, m16_, m17_, ha, Q_BK142, Q_BK143, Q_BK144, Q_HB, Q_HO148, Q_HO151, Q_HO154, Q_HO157, Q_HO160, Q_BK161, Q_GW161, Q_GE161, Q_NB142_161, Q_NB161_142, Q_NB143_161, Q_NB161_143, Q_NB144_161, Q_NB161_144, Q_BK161_e18, Q_X16_, Q_X17_, Q_SEP⟩ hb_ hon hoff
     refine ⟨_, rfl, fun K hK => ?_⟩
     have e19 : a.tmps[19]? = some (.pointer (some ⟨gb142, 2, none⟩)) := by rw [ha]; exact (putSel_off rfl).trans rfl
     replace ha := Aside0.mk ha
     have BK142 := Aside0.mk Q_BK142
     have BK143 := Aside0.mk Q_BK143
     have BK144 := Aside0.mk Q_BK144
     have HB := Aside0.mk Q_HB
     have hc0_ : w'.cell? ⟨gb142, 0, none⟩ = some (.int .i64 a0_0) := (blk_cell BK142.out 0).trans rfl
     have hc1_ : w'.cell? ⟨gb142, 1, none⟩ = some (.int .i64 a0_1) := (blk_cell BK142.out 1).trans rfl
     have hc2_ : w'.cell? ⟨gb142, 2, none⟩ = some (.slice A0_2 l0_2.length c0_2) := (blk_cell BK142.out 2).trans rfl
     have hc3_ : w'.cell? ⟨gb142, 3, none⟩ = some (.slice A0_3 l0_3.length c0_3) := (blk_cell BK142.out 3).trans rfl
     have hc4_ : w'.cell? ⟨gb142, 4, none⟩ = some (.slice A0_4 l0_4.length c0_4) := (blk_cell BK142.out 4).trans rfl
     refine value_ (w1 := w') (v := .slice A0_2 l0_2.length c0_2) (by rfl) rfl ?_ ?_
     ·
      go_simp
      (try simp only [i64_w])
      try rfl
     refine hK.out _ _ ⟨v147, v150, v153, v156, v159, gb161, m16_, m17_, (by rw [ha.out]; exact putSel_upk 2 hb_ rfl rfl rfl), Q_BK142, Q_BK143, Q_BK144, Q_HB, fun h0_ => absurd ((hoff 6 (by kernel_rfl)).symm.trans h0_) (by decide), fun h0_ => absurd ((hoff 9 (by kernel_rfl)).symm.trans h0_) (by decide), fun h0_ _ => absurd ((hoff 12 (by kernel_rfl)).symm.trans h0_) (by decide), Q_HO157, fun h0_ => absurd ((hoff 15 (by kernel_rfl)).symm.trans h0_) (by decide), Q_BK161, Q_GW161, Q_GE161, Q_NB142_161, Q_NB161_142, Q_NB143_161, Q_NB161_143, Q_NB144_161, Q_NB161_144, fun h0_ => absurd ((hoff 18 (by kernel_rfl)).symm.trans h0_) (by decide), fun h0_ => absurd ((hoff 16 (by kernel_rfl)).symm.trans h0_) (by decide), Q_X17_, Q_SEP⟩
    refine steps_cons ?_ ?_
    ·
     rintro b a w' ⟨v147, v150, v153, v156, v159, gb161, m16_, m17_, ha, Q_BK142, Q_BK143, Q_BK144, Q_HB, Q_HO148, Q_HO151, Q_HO154, Q_HO157, Q_HO160, Q_BK161, Q_GW161, Q_GE161, Q_NB142_161, Q_NB161_142, Q_NB143_161, Q_NB161_143, Q_NB144_161, Q_NB161_144, Q_BK161_e18, Q_X16_, Q_X17_, Q_SEP⟩ hb_ hon hoff
     refine ⟨_, rfl, fun K hK => ?_⟩
     have e20 : a.tmps[20]? = some (.slice A0_2 l0_2.length c0_2) := by rw [ha]; exact putSel_on (e := (5, 20, .slice A0_2 l0_2.length c0_2)) 2 rfl rfl (hon 5 (by kernel_rfl)) rfl
     replace ha := Aside0.mk ha
     have BK142 := Aside0.mk Q_BK142
     have BK143 := Aside0.mk Q_BK143
     have BK144 := Aside0.mk Q_BK144
     have HB := Aside0.mk Q_HB
     refine goes_ Try.func20 (by kernel_rfl) rfl #[.slice A0_2 l0_2.length c0_2] (by rfl) rfl rfl (by first | (simp only [List.map_toArray, List.map_cons, List.map_nil, Act.eval, Array.getD_eq_getD_getElem?, Option.getD_some, e20]; done) | (simp only [List.map_toArray, List.map_cons, List.map_nil, Act.eval, Array.getD_eq_getD_getElem?, Option.getD_some, e20]; rfl)) ?_
     with_reducible refine (slices_Clone_int_int.calls _ _ l0_2 t146 _ ?side1 ?side2 A5.out).mono ?_
     (case side1 => repeat (first | exact (Kd.C_below HR0_2.out HB.out) | (with_reducible refine Kd.C_alloc ?_ _) | (with_reducible refine Kd.C_drewN ?_ _) | (with_reducible refine Kd.C_drew ?_)))
     (case side2 => exact HC0_2.out)
     rintro e w20 ⟨v147, rfl, ho0, hb⟩
     refine ⟨_, rfl, ?_⟩
     have n0_ := Aside0.mk (Kd.R_lower ho0 (below_size (by repeat (first | (with_reducible first | exact HB.out | apply below_alloc | apply pw_below_drewN | apply below_drew1 | refine below_set ?_ GE142.out | refine below_set ?_ GE143.out | refine below_set ?_ GE144.out) | exact HB.out))))
     have n1_ := Aside0.mk (blk_below (g := gb142) (o := .cells #[.int .i64 a0_0, .int .i64 a0_1, .slice A0_2 l0_2.length c0_2, .slice A0_3 l0_3.length c0_3, .slice A0_4 l0_4.length c0_4] 25 (0, 0)) (by (with_reducible repeat (first | refine blk_drewN ?_ _ | refine blk_drew ?_ | refine blk_alloc ?_ _)); exact BK142.out) hb)
     have n2_ := Aside0.mk (blk_below (g := gb143) (o := .cells #[.int .i64 a1_0, .int .i64 a1_1, .int .i64 a1_2, .int .i64 a1_3] 34 (0, 0)) (by (with_reducible repeat (first | refine blk_drewN ?_ _ | refine blk_drew ?_ | refine blk_alloc ?_ _)); exact BK143.out) hb)
     have n3_ := Aside0.mk (blk_below (g := gb144) (o := .cells #[.int .i64 0, .int .i64 0, .slice none 0 0, .slice none 0 0, .slice none 0 0] 25 (0, 0)) (by (with_reducible repeat (first | refine blk_drewN ?_ _ | refine blk_drew ?_ | refine blk_alloc ?_ _)); exact BK144.out) hb)
     have n4_ := Aside0.mk (below_step (by repeat (first | (with_reducible first | exact HB.out | apply below_alloc | apply pw_below_drewN | apply below_drew1 | refine below_set ?_ GE142.out | refine below_set ?_ GE143.out | refine below_set ?_ GE144.out) | exact HB.out)) hb)
     have z_HO157 := fun (h0_ : b 14 = true) (h15_ : b 15 = false) => (show Kd.R k34 34 w20 w.heap.size (fun k_ => k_ ≠ gb143) v156 y155 from by first | exact (Kd.R_below (by (with_reducible repeat (first | apply Kd.R_alloc | apply Kd.R_drewN | apply Kd.R_drew)); exact (Q_HO157 h0_ h15_)) hb) | exact Kd.R_mono (Kd.R_below (by (with_reducible repeat (first | apply Kd.R_alloc | apply Kd.R_drewN | apply Kd.R_drew)); exact (Q_HO157 h0_ h15_)) hb) (fun _ h_ => by first | trivial | exact h_ | exact h_.1))
     have z_BK161 := fun (h0_ : b 17 = true) (h1_ : b 18 = false) => (show w20.heap[gb161]? = some (.cells #[.int .i64 0, .int .i64 0, .slice none 0 0, .slice none 0 0, .slice none 0 0] 25 (0, 0)) from by first | exact (blk_below (g := gb161) (o := .cells #[.int .i64 0, .int .i64 0, .slice none 0 0, .slice none 0 0, .slice none 0 0] 25 (0, 0)) (by (with_reducible repeat (first | refine blk_drewN ?_ _ | refine blk_drew ?_ | refine blk_alloc ?_ _)); exact (Q_BK161 h0_ h1_)) hb))
     clear BK142
     clear BK143
     clear BK144
     clear HB
     have HO148 := n0_
     have BK142 := n1_
     have BK143 := n2_
     have BK144 := n3_
     have HB := n4_
     clear n0_ n1_ n2_ n3_ n4_
     (try clear hb)
     (try clear hb2)
     (try clear hk)
     (try clear hi)
     (try clear ho0)
     refine hK.out _ _ ⟨v147, v150, v153, v156, v159, gb161, m16_, m17_, (by rw [ha.out]; exact putSel_upk 3 hb_ rfl rfl rfl), (by (with_reducible repeat (first | refine blk_drewN ?_ _ | refine blk_drew ?_ | refine blk_alloc ?_ _)); exact BK142.out), (by (with_reducible repeat (first | refine blk_drewN ?_ _ | refine blk_drew ?_ | refine blk_alloc ?_ _)); exact BK143.out), (by (with_reducible repeat (first | refine blk_drewN ?_ _ | refine blk_drew ?_ | refine blk_alloc ?_ _)); exact BK144.out), (by repeat (first | (with_reducible first | exact HB.out | apply below_alloc | apply pw_below_drewN | apply below_drew1 | refine below_set ?_ GE142.out | refine below_set ?_ GE143.out | refine below_set ?_ GE144.out) | exact HB.out)), fun _ => (by (with_reducible repeat (first | apply Kd.R_alloc | apply Kd.R_drewN | apply Kd.R_drew)); exact HO148.out), fun h0_ => absurd ((hoff 9 (by kernel_rfl)).symm.trans h0_) (by decide), fun h0_ _ => absurd ((hoff 12 (by kernel_rfl)).symm.trans h0_) (by decide), z_HO157, fun h0_ => absurd ((hoff 15 (by kernel_rfl)).symm.trans h0_) (by decide), z_BK161, Q_GW161, Q_GE161, Q_NB142_161, Q_NB161_142, Q_NB143_161, Q_NB161_143, Q_NB144_161, Q_NB161_144, fun h0_ => absurd ((hoff 18 (by kernel_rfl)).symm.trans h0_) (by decide), fun h0_ => absurd ((hoff 16 (by kernel_rfl)).symm.trans h0_) (by decide), Q_X17_, fun _ h9_ => absurd ((hoff 9 (by kernel_rfl)).symm.trans h9_) (by decide)⟩
    refine steps_cons ?_ ?_
    ·
     rintro b a w' ⟨v147, v150, v153, v156, v159, gb161, m16_, m17_, ha, Q_BK142, Q_BK143, Q_BK144, Q_HB, Q_HO148, Q_HO151, Q_HO154, Q_HO157, Q_HO160, Q_BK161, Q_GW161, Q_GE161, Q_NB142_161, Q_NB161_142, Q_NB143_161, Q_NB161_143, Q_NB144_161, Q_NB161_144, Q_BK161_e18, Q_X16_, Q_X17_, Q_SEP⟩ hb_ hon hoff
     refine ⟨_, rfl, fun K hK => ?_⟩
     have e22 : a.tmps[22]? = some (.pointer (some ⟨gb142, 3, none⟩)) := by rw [ha]; exact (putSel_off rfl).trans rfl
     replace ha := Aside0.mk ha
     have BK142 := Aside0.mk Q_BK142
     have BK143 := Aside0.mk Q_BK143
     have BK144 := Aside0.mk Q_BK144
     have HB := Aside0.mk Q_HB
     have hc0_ : w'.cell? ⟨gb142, 0, none⟩ = some (.int .i64 a0_0) := (blk_cell BK142.out 0).trans rfl
     have hc1_ : w'.cell? ⟨gb142, 1, none⟩ = some (.int .i64 a0_1) := (blk_cell BK142.out 1).trans rfl
     have hc2_ : w'.cell? ⟨gb142, 2, none⟩ = some (.slice A0_2 l0_2.length c0_2) := (blk_cell BK142.out 2).trans rfl
     have hc3_ : w'.cell? ⟨gb142, 3, none⟩ = some (.slice A0_3 l0_3.length c0_3) := (blk_cell BK142.out 3).trans rfl
     have hc4_ : w'.cell? ⟨gb142, 4, none⟩ = some (.slice A0_4 l0_4.length c0_4) := (blk_cell BK142.out 4).trans rfl
     refine value_ (w1 := w') (v := .slice A0_3 l0_3.length c0_3) (by rfl) rfl ?_ ?_
     ·
      go_simp
      (try simp only [i64_w])
      try rfl
     refine hK.out _ _ ⟨v147, v150, v153, v156, v159, gb161, m16_, m17_, (by rw [ha.out]; exact putSel_upk 4 hb_ rfl rfl rfl), Q_BK142, Q_BK143, Q_BK144, Q_HB, Q_HO148, fun h0_ => absurd ((hoff 9 (by kernel_rfl)).symm.trans h0_) (by decide), fun h0_ _ => absurd ((hoff 12 (by kernel_rfl)).symm.trans h0_) (by decide), Q_HO157, fun h0_ => absurd ((hoff 15 (by kernel_rfl)).symm.trans h0_) (by decide), Q_BK161, Q_GW161, Q_GE161, Q_NB142_161, Q_NB161_142, Q_NB143_161, Q_NB161_143, Q_NB144_161, Q_NB161_144, fun h0_ => absurd ((hoff 18 (by kernel_rfl)).symm.trans h0_) (by decide), fun h0_ => absurd ((hoff 16 (by kernel_rfl)).symm.trans h0_) (by decide), Q_X17_, Q_SEP⟩
    refine steps_cons ?_ ?_
    ·
     rintro b a w' ⟨v147, v150, v153, v156, v159, gb161, m16_, m17_, ha, Q_BK142, Q_BK143, Q_BK144, Q_HB, Q_HO148, Q_HO151, Q_HO154, Q_HO157, Q_HO160, Q_BK161, Q_GW161, Q_GE161, Q_NB142_161, Q_NB161_142, Q_NB143_161, Q_NB161_143, Q_NB144_161, Q_NB161_144, Q_BK161_e18, Q_X16_, Q_X17_, Q_SEP⟩ hb_ hon hoff
     refine ⟨_, rfl, fun K hK => ?_⟩
     have e23 : a.tmps[23]? = some (.slice A0_3 l0_3.length c0_3) := by rw [ha]; exact putSel_on (e := (8, 23, .slice A0_3 l0_3.length c0_3)) 4 rfl rfl (hon 8 (by kernel_rfl)) rfl
     replace ha := Aside0.mk ha
     have BK142 := Aside0.mk Q_BK142
     have BK143 := Aside0.mk Q_BK143
     have BK144 := Aside0.mk Q_BK144
     have HB := Aside0.mk Q_HB
     have HO148 := Aside0.mk (Q_HO148 (hon 6 (by kernel_rfl)))
     refine goes_ Try.func20 (by kernel_rfl) rfl #[.slice A0_3 l0_3.length c0_3] (by rfl) rfl rfl (by first | (simp only [List.map_toArray, List.map_cons, List.map_nil, Act.eval, Array.getD_eq_getD_getElem?, Option.getD_some, e23]; done) | (simp only [List.map_toArray, List.map_cons, List.map_nil, Act.eval, Array.getD_eq_getD_getElem?, Option.getD_some, e23]; rfl)) ?_
     with_reducible refine (slices_Clone_int_int.calls _ _ l0_3 t149 _ ?side1 ?side2 A6.out).mono ?_
     (case side1 => repeat (first | exact (Kd.C_below HR0_3.out HB.out) | (with_reducible refine Kd.C_alloc ?_ _) | (with_reducible refine Kd.C_drewN ?_ _) | (with_reducible refine Kd.C_drew ?_)))
     (case side2 => exact HC0_3.out)
     rintro e w22 ⟨v150, rfl, ho0, hb⟩
     refine ⟨_, rfl, ?_⟩
     have SEPc := own_apart (Kd.R_lt HO148.out) (Kd.R_base ho0)
     have n0_ := Aside0.mk (Kd.R_elder' (by (with_reducible repeat (first | apply Kd.R_alloc | apply Kd.R_drewN | apply Kd.R_drew)); exact HO148.out) (Kd.R_base ho0) hb)
     have n1_ := Aside0.mk (Kd.R_lower (Kd.R_new' ho0 (Kd.R_lt (by (with_reducible repeat (first | apply Kd.R_alloc | apply Kd.R_drewN | apply Kd.R_drew)); exact HO148.out))) (below_size (by repeat (first | (with_reducible first | exact HB.out | apply below_alloc | apply pw_below_drewN | apply below_drew1 | refine below_set ?_ GE142.out | refine below_set ?_ GE143.out | refine below_set ?_ GE144.out) | exact HB.out))))
     have n2_ := Aside0.mk (blk_below (g := gb142) (o := .cells #[.int .i64 a0_0, .int .i64 a0_1, .slice A0_2 l0_2.length c0_2, .slice A0_3 l0_3.length c0_3, .slice A0_4 l0_4.length c0_4] 25 (0, 0)) (by (with_reducible repeat (first | refine blk_drewN ?_ _ | refine blk_drew ?_ | refine blk_alloc ?_ _)); exact BK142.out) hb)
     have n3_ := Aside0.mk (blk_below (g := gb143) (o := .cells #[.int .i64 a1_0, .int .i64 a1_1, .int .i64 a1_2, .int .i64 a1_3] 34 (0, 0)) (by (with_reducible repeat (first | refine blk_drewN ?_ _ | refine blk_drew ?_ | refine blk_alloc ?_ _)); exact BK143.out) hb)
     have n4_ := Aside0.mk (blk_below (g := gb144) (o := .cells #[.int .i64 0, .int .i64 0, .slice none 0 0, .slice none 0 0, .slice none 0 0] 25 (0, 0)) (by (with_reducible repeat (first | refine blk_drewN ?_ _ | refine blk_drew ?_ | refine blk_alloc ?_ _)); exact BK144.out) hb)
     have n5_ := Aside0.mk (below_step (by repeat (first | (with_reducible first | exact HB.out | apply below_alloc | apply pw_below_drewN | apply below_drew1 | refine below_set ?_ GE142.out | refine below_set ?_ GE143.out | refine below_set ?_ GE144.out) | exact HB.out)) hb)
     have z_HO157 := fun (h0_ : b 14 = true) (h15_ : b 15 = false) => (show Kd.R k34 34 w22 w.heap.size (fun k_ => k_ ≠ gb143) v156 y155 from by first | exact (Kd.R_below (by (with_reducible repeat (first | apply Kd.R_alloc | apply Kd.R_drewN | apply Kd.R_drew)); exact (Q_HO157 h0_ h15_)) hb) | exact Kd.R_mono (Kd.R_below (by (with_reducible repeat (first | apply Kd.R_alloc | apply Kd.R_drewN | apply Kd.R_drew)); exact (Q_HO157 h0_ h15_)) hb) (fun _ h_ => by first | trivial | exact h_ | exact h_.1))
     have z_BK161 := fun (h0_ : b 17 = true) (h1_ : b 18 = false) => (show w22.heap[gb161]? = some (.cells #[.int .i64 0, .int .i64 0, .slice none 0 0, .slice none 0 0, .slice none 0 0] 25 (0, 0)) from by first | exact (blk_below (g := gb161) (o := .cells #[.int .i64 0, .int .i64 0, .slice none 0 0, .slice none 0 0, .slice none 0 0] 25 (0, 0)) (by (with_reducible repeat (first | refine blk_drewN ?_ _ | refine blk_drew ?_ | refine blk_alloc ?_ _)); exact (Q_BK161 h0_ h1_)) hb))
     clear HO148
     clear BK142
     clear BK143
     clear BK144
     clear HB
     have HO148 := n0_
     have HO151 := n1_
     have BK142 := n2_
     have BK143 := n3_
     have BK144 := n4_
     have HB := n5_
     clear n0_ n1_ n2_ n3_ n4_ n5_
     (try clear hb)
     (try clear hb2)
     (try clear hk)
     (try clear hi)
     (try clear ho0)
     refine hK.out _ _ ⟨v147, v150, v153, v156, v159, gb161, m16_, m17_, (by rw [ha.out]; exact putSel_upk 5 hb_ rfl rfl rfl), (by (with_reducible repeat (first | refine blk_drewN ?_ _ | refine blk_drew ?_ | refine blk_alloc ?_ _)); exact BK142.out), (by (with_reducible repeat (first | refine blk_drewN ?_ _ | refine blk_drew ?_ | refine blk_alloc ?_ _)); exact BK143.out), (by (with_reducible repeat (first | refine blk_drewN ?_ _ | refine blk_drew ?_ | refine blk_alloc ?_ _)); exact BK144.out), (by repeat (first | (with_reducible first | exact HB.out | apply below_alloc | apply pw_below_drewN | apply below_drew1 | refine below_set ?_ GE142.out | refine below_set ?_ GE143.out | refine below_set ?_ GE144.out) | exact HB.out)), fun _ => (by (with_reducible repeat (first | apply Kd.R_alloc | apply Kd.R_drewN | apply Kd.R_drew)); exact Kd.R_mono HO148.out (fun _ _ => trivial)), fun _ => (by (with_reducible repeat (first | apply Kd.R_alloc | apply Kd.R_drewN | apply Kd.R_drew)); exact Kd.R_mono HO151.out (fun _ _ => trivial)), fun h0_ _ => absurd ((hoff 12 (by kernel_rfl)).symm.trans h0_) (by decide), z_HO157, fun h0_ => absurd ((hoff 15 (by kernel_rfl)).symm.trans h0_) (by decide), z_BK161, Q_GW161, Q_GE161, Q_NB142_161, Q_NB161_142, Q_NB143_161, Q_NB161_143, Q_NB144_161, Q_NB161_144, fun h0_ => absurd ((hoff 18 (by kernel_rfl)).symm.trans h0_) (by decide), fun h0_ => absurd ((hoff 16 (by kernel_rfl)).symm.trans h0_) (by decide), Q_X17_, fun _ _ => SEPc⟩
    refine steps_cons ?_ ?_
    ·
     rintro b a w' ⟨v147, v150, v153, v156, v159, gb161, m16_, m17_, ha, Q_BK142, Q_BK143, Q_BK144, Q_HB, Q_HO148, Q_HO151, Q_HO154, Q_HO157, Q_HO160, Q_BK161, Q_GW161, Q_GE161, Q_NB142_161, Q_NB161_142, Q_NB143_161, Q_NB161_143, Q_NB144_161, Q_NB161_144, Q_BK161_e18, Q_X16_, Q_X17_, Q_SEP⟩ hb_ hon hoff
     refine ⟨_, rfl, fun K hK => ?_⟩
     have e25 : a.tmps[25]? = some (.pointer (some ⟨gb142, 4, none⟩)) := by rw [ha]; exact (putSel_off rfl).trans rfl
     replace ha := Aside0.mk ha
     have BK142 := Aside0.mk Q_BK142
     have BK143 := Aside0.mk Q_BK143
     have BK144 := Aside0.mk Q_BK144
     have HB := Aside0.mk Q_HB
     have hc0_ : w'.cell? ⟨gb142, 0, none⟩ = some (.int .i64 a0_0) := (blk_cell BK142.out 0).trans rfl
     have hc1_ : w'.cell? ⟨gb142, 1, none⟩ = some (.int .i64 a0_1) := (blk_cell BK142.out 1).trans rfl
     have hc2_ : w'.cell? ⟨gb142, 2, none⟩ = some (.slice A0_2 l0_2.length c0_2) := (blk_cell BK142.out 2).trans rfl
     have hc3_ : w'.cell? ⟨gb142, 3, none⟩ = some (.slice A0_3 l0_3.length c0_3) := (blk_cell BK142.out 3).trans rfl
     have hc4_ : w'.cell? ⟨gb142, 4, none⟩ = some (.slice A0_4 l0_4.length c0_4) := (blk_cell BK142.out 4).trans rfl
     refine value_ (w1 := w') (v := .slice A0_4 l0_4.length c0_4) (by rfl) rfl ?_ ?_
     ·
      go_simp
      (try simp only [i64_w])
      try rfl
     refine hK.out _ _ ⟨v147, v150, v153, v156, v159, gb161, m16_, m17_, (by rw [ha.out]; exact putSel_upk 6 hb_ rfl rfl rfl), Q_BK142, Q_BK143, Q_BK144, Q_HB, Q_HO148, Q_HO151, fun h0_ _ => absurd ((hoff 12 (by kernel_rfl)).symm.trans h0_) (by decide), Q_HO157, fun h0_ => absurd ((hoff 15 (by kernel_rfl)).symm.trans h0_) (by decide), Q_BK161, Q_GW161, Q_GE161, Q_NB142_161, Q_NB161_142, Q_NB143_161, Q_NB161_143, Q_NB144_161, Q_NB161_144, fun h0_ => absurd ((hoff 18 (by kernel_rfl)).symm.trans h0_) (by decide), fun h0_ => absurd ((hoff 16 (by kernel_rfl)).symm.trans h0_) (by decide), Q_X17_, Q_SEP⟩
    refine steps_cons ?_ ?_
    ·
     rintro b a w' ⟨v147, v150, v153, v156, v159, gb161, m16_, m17_, ha, Q_BK142, Q_BK143, Q_BK144, Q_HB, Q_HO148, Q_HO151, Q_HO154, Q_HO157, Q_HO160, Q_BK161, Q_GW161, Q_GE161, Q_NB142_161, Q_NB161_142, Q_NB143_161, Q_NB161_143, Q_NB144_161, Q_NB161_144, Q_BK161_e18, Q_X16_, Q_X17_, Q_SEP⟩ hb_ hon hoff
     refine ⟨_, rfl, fun K hK => ?_⟩
     have e26 : a.tmps[26]? = some (.slice A0_4 l0_4.length c0_4) := by rw [ha]; exact putSel_on (e := (11, 26, .slice A0_4 l0_4.length c0_4)) 6 rfl rfl (hon 11 (by kernel_rfl)) rfl
     replace ha := Aside0.mk ha
     have BK142 := Aside0.mk Q_BK142
     have BK143 := Aside0.mk Q_BK143
     have BK144 := Aside0.mk Q_BK144
     have HB := Aside0.mk Q_HB
     have HO148 := Aside0.mk (Q_HO148 (hon 6 (by kernel_rfl)))
     have HO151 := Aside0.mk (Q_HO151 (hon 9 (by kernel_rfl)))
     refine goes_ Try.func21 (by kernel_rfl) rfl #[.slice A0_4 l0_4.length c0_4] (by rfl) rfl rfl (by first | (simp only [List.map_toArray, List.map_cons, List.map_nil, Act.eval, Array.getD_eq_getD_getElem?, Option.getD_some, e26]; done) | (simp only [List.map_toArray, List.map_cons, List.map_nil, Act.eval, Array.getD_eq_getD_getElem?, Option.getD_some, e26]; rfl)) ?_
     with_reducible refine (api_Action.calls _ _ l0_4 t152 _ ?side1 ?side2 A7.out).mono ?_
     (case side1 => repeat (first | exact (Kd.C_below HR0_4.out HB.out) | (with_reducible refine Kd.C_alloc ?_ _) | (with_reducible refine Kd.C_drewN ?_ _) | (with_reducible refine Kd.C_drew ?_)))
     (case side2 => exact HC0_4.out)
     rintro e w23 ⟨v153, rfl, ho0, hb⟩
     refine ⟨_, rfl, ?_⟩
     have n0_ := Aside0.mk (Kd.R_below (by (with_reducible repeat (first | apply Kd.R_alloc | apply Kd.R_drewN | apply Kd.R_drew)); exact HO148.out) hb)
     have n1_ := Aside0.mk (Kd.R_below (by (with_reducible repeat (first | apply Kd.R_alloc | apply Kd.R_drewN | apply Kd.R_drew)); exact HO151.out) hb)
     have n2_ := Aside0.mk (Kd.R_lower (Kd.R_newB ho0 (g := gb143) (o := .cells #[.int .i64 a1_0, .int .i64 a1_1, .int .i64 a1_2, .int .i64 a1_3] 34 (0, 0)) (by (with_reducible repeat (first | refine blk_drewN ?_ _ | refine blk_drew ?_ | refine blk_alloc ?_ _)); exact BK143.out)) (below_size (by repeat (first | (with_reducible first | exact HB.out | apply below_alloc | apply pw_below_drewN | apply below_drew1 | refine below_set ?_ GE142.out | refine below_set ?_ GE143.out | refine below_set ?_ GE144.out) | exact HB.out))))
     have n3_ := Aside0.mk (blk_below (g := gb142) (o := .cells #[.int .i64 a0_0, .int .i64 a0_1, .slice A0_2 l0_2.length c0_2, .slice A0_3 l0_3.length c0_3, .slice A0_4 l0_4.length c0_4] 25 (0, 0)) (by (with_reducible repeat (first | refine blk_drewN ?_ _ | refine blk_drew ?_ | refine blk_alloc ?_ _)); exact BK142.out) hb)
     have n4_ := Aside0.mk (blk_below (g := gb143) (o := .cells #[.int .i64 a1_0, .int .i64 a1_1, .int .i64 a1_2, .int .i64 a1_3] 34 (0, 0)) (by (with_reducible repeat (first | refine blk_drewN ?_ _ | refine blk_drew ?_ | refine blk_alloc ?_ _)); exact BK143.out) hb)
     have n5_ := Aside0.mk (blk_below (g := gb144) (o := .cells #[.int .i64 0, .int .i64 0, .slice none 0 0, .slice none 0 0, .slice none 0 0] 25 (0, 0)) (by (with_reducible repeat (first | refine blk_drewN ?_ _ | refine blk_drew ?_ | refine blk_alloc ?_ _)); exact BK144.out) hb)
     have n6_ := Aside0.mk (below_step (by repeat (first | (with_reducible first | exact HB.out | apply below_alloc | apply pw_below_drewN | apply below_drew1 | refine below_set ?_ GE142.out | refine below_set ?_ GE143.out | refine below_set ?_ GE144.out) | exact HB.out)) hb)
     have z_HO157 := fun (h0_ : b 14 = true) (h15_ : b 15 = false) => (show Kd.R k34 34 w23 w.heap.size (fun k_ => k_ ≠ gb143) v156 y155 from by first | exact (Kd.R_elder' (by (with_reducible repeat (first | apply Kd.R_alloc | apply Kd.R_drewN | apply Kd.R_drew)); exact (Q_HO157 h0_ h15_)) (Kd.R_base ho0) hb) | exact Kd.R_mono (Kd.R_elder' (by (with_reducible repeat (first | apply Kd.R_alloc | apply Kd.R_drewN | apply Kd.R_drew)); exact (Q_HO157 h0_ h15_)) (Kd.R_base ho0) hb) (fun _ h_ => by first | trivial | exact h_ | exact h_.1))
     have z_BK161 := fun (h0_ : b 17 = true) (h1_ : b 18 = false) => (show w23.heap[gb161]? = some (.cells #[.int .i64 0, .int .i64 0, .slice none 0 0, .slice none 0 0, .slice none 0 0] 25 (0, 0)) from by first | exact (blk_below (g := gb161) (o := .cells #[.int .i64 0, .int .i64 0, .slice none 0 0, .slice none 0 0, .slice none 0 0] 25 (0, 0)) (by (with_reducible repeat (first | refine blk_drewN ?_ _ | refine blk_drew ?_ | refine blk_alloc ?_ _)); exact (Q_BK161 h0_ h1_)) hb))
     clear HO148
     clear HO151
     clear BK142
     clear BK143
     clear BK144
     clear HB
     have HO148 := n0_
     have HO151 := n1_
     have HO154 := n2_
     have BK142 := n3_
     have BK143 := n4_
     have BK144 := n5_
     have HB := n6_
     clear n0_ n1_ n2_ n3_ n4_ n5_ n6_
     (try clear hb)
     (try clear hb2)
     (try clear hk)
     (try clear hi)
     (try clear ho0)
     refine hK.out _ _ ⟨v147, v150, v153, v156, v159, gb161, m16_, m17_, (by rw [ha.out]; exact putSel_upk 7 hb_ rfl rfl rfl), (by (with_reducible repeat (first | refine blk_drewN ?_ _ | refine blk_drew ?_ | refine blk_alloc ?_ _)); exact BK142.out), (by (with_reducible repeat (first | refine blk_drewN ?_ _ | refine blk_drew ?_ | refine blk_alloc ?_ _)); exact BK143.out), (by (with_reducible repeat (first | refine blk_drewN ?_ _ | refine blk_drew ?_ | refine blk_alloc ?_ _)); exact BK144.out), (by repeat (first | (with_reducible first | exact HB.out | apply below_alloc | apply pw_below_drewN | apply below_drew1 | refine below_set ?_ GE142.out | refine below_set ?_ GE143.out | refine below_set ?_ GE144.out) | exact HB.out)), fun _ => (by (with_reducible repeat (first | apply Kd.R_alloc | apply Kd.R_drewN | apply Kd.R_drew)); exact HO148.out), fun _ => (by (with_reducible repeat (first | apply Kd.R_alloc | apply Kd.R_drewN | apply Kd.R_drew)); exact HO151.out), fun _ _ => (by (with_reducible repeat (first | apply Kd.R_alloc | apply Kd.R_drewN | apply Kd.R_drew)); exact Kd.R_mono HO154.out (fun _ hk => hk.2)), z_HO157, fun h0_ => absurd ((hoff 15 (by kernel_rfl)).symm.trans h0_) (by decide), z_BK161, Q_GW161, Q_GE161, Q_NB142_161, Q_NB161_142, Q_NB143_161, Q_NB161_143, Q_NB144_161, Q_NB161_144, fun h0_ => absurd ((hoff 18 (by kernel_rfl)).symm.trans h0_) (by decide), fun h0_ => absurd ((hoff 16 (by kernel_rfl)).symm.trans h0_) (by decide), Q_X17_, Q_SEP⟩
    refine steps_cons ?_ ?_
    ·
     rintro b a w' ⟨v147, v150, v153, v156, v159, gb161, m16_, m17_, ha, Q_BK142, Q_BK143, Q_BK144, Q_HB, Q_HO148, Q_HO151, Q_HO154, Q_HO157, Q_HO160, Q_BK161, Q_GW161, Q_GE161, Q_NB142_161, Q_NB161_142, Q_NB143_161, Q_NB161_143, Q_NB144_161, Q_NB161_144, Q_BK161_e18, Q_X16_, Q_X17_, Q_SEP⟩ hb_ hon hoff
     refine ⟨_, rfl, fun K hK => ?_⟩
     have e3 : a.tmps[3]? = some (.pointer (some ⟨gb143, 0, none⟩)) := by rw [ha]; exact (putSel_off rfl).trans rfl
     replace ha := Aside0.mk ha
     have BK142 := Aside0.mk Q_BK142
     have BK143 := Aside0.mk Q_BK143
     have BK144 := Aside0.mk Q_BK144
     have HB := Aside0.mk Q_HB
     have hc0_ : w'.cell? ⟨gb143, 0, none⟩ = some (.int .i64 a1_0) := (blk_cell BK143.out 0).trans rfl
     have hc1_ : w'.cell? ⟨gb143, 1, none⟩ = some (.int .i64 a1_1) := (blk_cell BK143.out 1).trans rfl
     have hc2_ : w'.cell? ⟨gb143, 2, none⟩ = some (.int .i64 a1_2) := (blk_cell BK143.out 2).trans rfl
     have hc3_ : w'.cell? ⟨gb143, 3, none⟩ = some (.int .i64 a1_3) := (blk_cell BK143.out 3).trans rfl
     refine value_ (w1 := w') (v := .agg #[.int .i64 a1_0, .int .i64 a1_1, .int .i64 a1_2, .int .i64 a1_3]) (by rfl) rfl ?_ ?_
     ·
      go_simp
      (try simp only [i64_w])
      try rfl
     refine hK.out _ _ ⟨v147, v150, v153, v156, v159, gb161, m16_, m17_, (by rw [ha.out]; exact putSel_upk 8 hb_ rfl rfl rfl), Q_BK142, Q_BK143, Q_BK144, Q_HB, Q_HO148, Q_HO151, Q_HO154, fun h0_ => absurd ((hoff 14 (by kernel_rfl)).symm.trans h0_) (by decide), fun h0_ => absurd ((hoff 15 (by kernel_rfl)).symm.trans h0_) (by decide), Q_BK161, Q_GW161, Q_GE161, Q_NB142_161, Q_NB161_142, Q_NB143_161, Q_NB161_143, Q_NB144_161, Q_NB161_144, fun h0_ => absurd ((hoff 18 (by kernel_rfl)).symm.trans h0_) (by decide), fun h0_ => absurd ((hoff 16 (by kernel_rfl)).symm.trans h0_) (by decide), Q_X17_, Q_SEP⟩
    refine steps_cons ?_ ?_
    ·
     rintro b a w' ⟨v147, v150, v153, v156, v159, gb161, m16_, m17_, ha, Q_BK142, Q_BK143, Q_BK144, Q_HB, Q_HO148, Q_HO151, Q_HO154, Q_HO157, Q_HO160, Q_BK161, Q_GW161, Q_GE161, Q_NB142_161, Q_NB161_142, Q_NB143_161, Q_NB161_143, Q_NB144_161, Q_NB161_144, Q_BK161_e18, Q_X16_, Q_X17_, Q_SEP⟩ hb_ hon hoff
     refine ⟨_, rfl, fun K hK => ?_⟩
     have e28 : a.tmps[28]? = some (.agg #[.int .i64 a1_0, .int .i64 a1_1, .int .i64 a1_2, .int .i64 a1_3]) := by rw [ha]; exact putSel_on (e := (13, 28, .agg #[.int .i64 a1_0, .int .i64 a1_1, .int .i64 a1_2, .int .i64 a1_3])) 8 rfl rfl (hon 13 (by kernel_rfl)) rfl
     replace ha := Aside0.mk ha
     have BK142 := Aside0.mk Q_BK142
     have BK143 := Aside0.mk Q_BK143
     have BK144 := Aside0.mk Q_BK144
     have HB := Aside0.mk Q_HB
     refine Kd.R_lit_step k34 _ 34 ?hg (N := 29) ?hd (xs := ([(⟨a1_0, a1_1, a1_2, a1_3⟩ : S34)] : List (S34))) (inner := [.int .i64 a1_0, .int .i64 a1_1, .int .i64 a1_2, .int .i64 a1_3]) (ok := fun _ => True) (okp := fun _ => True) ?hr ?hp (fun _ hk => hk) trivial (Below.refl _ _) (Nat.le_refl _) (by simp) ?_; (case hd => rfl); (case hg => rfl); (case hr => first | (go_simp; done) | (go_simp; rfl)); (case hp => exact (Reps.c4 (show Kd.M k34 _ _ _ (⟨a1_0, a1_1, a1_2, a1_3⟩ : S34) [.int .i64 a1_0, .int .i64 a1_1, .int .i64 a1_2, .int .i64 a1_3] from (k34_mkM _ _ _ (⟨a1_0, a1_1, a1_2, a1_3⟩ : S34) )) (Reps.none _ _)))
     intro v156 w20 ho21 hb hg_ hnew_
     clear hg_ hnew_
     (first | rw [← Ny155.out] at ho21 | (simp only [Int.reduceToNat] at ho21; rw [← Ny155.out] at ho21))
     have n0_ := Aside0.mk (Kd.R_lower (Kd.R_newB ho21 (g := gb143) (o := .cells #[.int .i64 a1_0, .int .i64 a1_1, .int .i64 a1_2, .int .i64 a1_3] 34 (0, 0)) (by (with_reducible repeat (first | refine blk_drewN ?_ _ | refine blk_drew ?_ | refine blk_alloc ?_ _)); exact BK143.out)) (below_size (by repeat (first | (with_reducible first | exact HB.out | apply below_alloc | apply pw_below_drewN | apply below_drew1 | refine below_set ?_ GE142.out | refine below_set ?_ GE143.out | refine below_set ?_ GE144.out) | exact HB.out))))
     have n1_ := Aside0.mk (blk_below (g := gb142) (o := .cells #[.int .i64 a0_0, .int .i64 a0_1, .slice A0_2 l0_2.length c0_2, .slice A0_3 l0_3.length c0_3, .slice A0_4 l0_4.length c0_4] 25 (0, 0)) (by (with_reducible repeat (first | refine blk_drewN ?_ _ | refine blk_drew ?_ | refine blk_alloc ?_ _)); exact BK142.out) hb)
     have n2_ := Aside0.mk (blk_below (g := gb143) (o := .cells #[.int .i64 a1_0, .int .i64 a1_1, .int .i64 a1_2, .int .i64 a1_3] 34 (0, 0)) (by (with_reducible repeat (first | refine blk_drewN ?_ _ | refine blk_drew ?_ | refine blk_alloc ?_ _)); exact BK143.out) hb)
     have n3_ := Aside0.mk (blk_below (g := gb144) (o := .cells #[.int .i64 0, .int .i64 0, .slice none 0 0, .slice none 0 0, .slice none 0 0] 25 (0, 0)) (by (with_reducible repeat (first | refine blk_drewN ?_ _ | refine blk_drew ?_ | refine blk_alloc ?_ _)); exact BK144.out) hb)
     have n4_ := Aside0.mk (below_step (by repeat (first | (with_reducible first | exact HB.out | apply below_alloc | apply pw_below_drewN | apply below_drew1 | refine below_set ?_ GE142.out | refine below_set ?_ GE143.out | refine below_set ?_ GE144.out) | exact HB.out)) hb)
     have z_HO148 := fun (h0_ : b 6 = true) => (show Kd.R (Kd.int .i64) 3 w20 w.heap.size (fun _ => True) v147 t146 from by first | exact (Kd.R_below (by (with_reducible repeat (first | apply Kd.R_alloc | apply Kd.R_drewN | apply Kd.R_drew)); exact (Q_HO148 h0_)) hb) | exact Kd.R_mono (Kd.R_below (by (with_reducible repeat (first | apply Kd.R_alloc | apply Kd.R_drewN | apply Kd.R_drew)); exact (Q_HO148 h0_)) hb) (fun _ h_ => by first | trivial | exact h_ | exact h_.1))
     have z_HO151 := fun (h0_ : b 9 = true) => (show Kd.R (Kd.int .i64) 3 w20 w.heap.size (fun _ => True) v150 t149 from by first | exact (Kd.R_below (by (with_reducible repeat (first | apply Kd.R_alloc | apply Kd.R_drewN | apply Kd.R_drew)); exact (Q_HO151 h0_)) hb) | exact Kd.R_mono (Kd.R_below (by (with_reducible repeat (first | apply Kd.R_alloc | apply Kd.R_drewN | apply Kd.R_drew)); exact (Q_HO151 h0_)) hb) (fun _ h_ => by first | trivial | exact h_ | exact h_.1))
     have z_HO154 := fun (h0_ : b 12 = true) (h1_ : b 15 = false) => (show Kd.R k34 34 w20 w.heap.size (fun k_ => k_ ≠ gb143) v153 t152 from by first | exact (Kd.R_elder' (by (with_reducible repeat (first | apply Kd.R_alloc | apply Kd.R_drewN | apply Kd.R_drew)); exact (Q_HO154 h0_ h1_)) (Kd.R_base ho21) hb) | exact Kd.R_mono (Kd.R_elder' (by (with_reducible repeat (first | apply Kd.R_alloc | apply Kd.R_drewN | apply Kd.R_drew)); exact (Q_HO154 h0_ h1_)) (Kd.R_base ho21) hb) (fun _ h_ => by first | trivial | exact h_ | exact h_.1))
     have z_BK161 := fun (h0_ : b 17 = true) (h1_ : b 18 = false) => (show w20.heap[gb161]? = some (.cells #[.int .i64 0, .int .i64 0, .slice none 0 0, .slice none 0 0, .slice none 0 0] 25 (0, 0)) from by first | exact (blk_below (g := gb161) (o := .cells #[.int .i64 0, .int .i64 0, .slice none 0 0, .slice none 0 0, .slice none 0 0] 25 (0, 0)) (by (with_reducible repeat (first | refine blk_drewN ?_ _ | refine blk_drew ?_ | refine blk_alloc ?_ _)); exact (Q_BK161 h0_ h1_)) hb))
     clear BK142
     clear BK143
     clear BK144
     clear HB
     have HO157 := n0_
     have BK142 := n1_
     have BK143 := n2_
     have BK144 := n3_
     have HB := n4_
     clear n0_ n1_ n2_ n3_ n4_
     clear hb ho21
     refine hK.out _ _ ⟨v147, v150, v153, v156, v159, gb161, m16_, m17_, (by rw [ha.out]; exact putSel_upk 9 hb_ rfl rfl rfl), (by (with_reducible repeat (first | refine blk_drewN ?_ _ | refine blk_drew ?_ | refine blk_alloc ?_ _)); exact BK142.out), (by (with_reducible repeat (first | refine blk_drewN ?_ _ | refine blk_drew ?_ | refine blk_alloc ?_ _)); exact BK143.out), (by (with_reducible repeat (first | refine blk_drewN ?_ _ | refine blk_drew ?_ | refine blk_alloc ?_ _)); exact BK144.out), (by repeat (first | (with_reducible first | exact HB.out | apply below_alloc | apply pw_below_drewN | apply below_drew1 | refine below_set ?_ GE142.out | refine below_set ?_ GE143.out | refine below_set ?_ GE144.out) | exact HB.out)), z_HO148, z_HO151, z_HO154, fun _ _ => (by (with_reducible repeat (first | apply Kd.R_alloc | apply Kd.R_drewN | apply Kd.R_drew)); exact Kd.R_mono HO157.out (fun _ hk => hk.2)), fun h0_ => absurd ((hoff 15 (by kernel_rfl)).symm.trans h0_) (by decide), z_BK161, Q_GW161, Q_GE161, Q_NB142_161, Q_NB161_142, Q_NB143_161, Q_NB161_143, Q_NB144_161, Q_NB161_144, fun h0_ => absurd ((hoff 18 (by kernel_rfl)).symm.trans h0_) (by decide), fun h0_ => absurd ((hoff 16 (by kernel_rfl)).symm.trans h0_) (by decide), Q_X17_, Q_SEP⟩
    refine steps_cons ?_ ?_
    ·
     rintro b a w' ⟨v147, v150, v153, v156, v159, gb161, m16_, m17_, ha, Q_BK142, Q_BK143, Q_BK144, Q_HB, Q_HO148, Q_HO151, Q_HO154, Q_HO157, Q_HO160, Q_BK161, Q_GW161, Q_GE161, Q_NB142_161, Q_NB161_142, Q_NB143_161, Q_NB161_143, Q_NB144_161, Q_NB161_144, Q_BK161_e18, Q_X16_, Q_X17_, Q_SEP⟩ hb_ hon hoff
     refine ⟨_, rfl, fun K hK => ?_⟩
     have e27 : a.tmps[27]? = some (v153) := by rw [ha]; exact putSel_on (e := (12, 27, v153)) 7 rfl rfl (hon 12 (by kernel_rfl)) rfl
     have e29 : a.tmps[29]? = some (v156) := by rw [ha]; exact putSel_on (e := (14, 29, v156)) 9 rfl rfl (hon 14 (by kernel_rfl)) rfl
     replace ha := Aside0.mk ha
     have BK142 := Aside0.mk Q_BK142
     have BK143 := Aside0.mk Q_BK143
     have BK144 := Aside0.mk Q_BK144
     have HB := Aside0.mk Q_HB
     have HO148 := Aside0.mk (Q_HO148 (hon 6 (by kernel_rfl)))
     have HO151 := Aside0.mk (Q_HO151 (hon 9 (by kernel_rfl)))
     have HO154 := Aside0.mk (Q_HO154 (hon 12 (by kernel_rfl)) hb_)
     have HO157 := Aside0.mk (Q_HO157 (hon 14 (by kernel_rfl)) hb_)
     obtain ⟨Ao27, co27, eo27⟩ := Kd.R_slice HO157.out
     (first | subst eo27 | (injection eo27 with f1_ f2_ f3_; have f4_ := f1_.symm; have f5_ := f3_.symm; clear f1_ f2_ f3_; subst f4_; subst f5_))
     refine Kd.R_append_rows_step k34 (w0 := w) w.heap.size (by rfl) (.tmp 27) (.tmp 29) 23 34 (.agg #[(.int .i64 0), (.int .i64 0), (.int .i64 0), (.int .i64 0)]) 32 rfl Try.underlying23 info34 rfl (by decide) (by omega) v153 t152 y155 _ _ _ (fun k_ => k_ ≠ gb143) (fun _ => False) (by simp only [Act.eval, Array.getD_eq_getD_getElem?, e27, Option.getD_some]) (by simp only [Act.eval, Array.getD_eq_getD_getElem?, e29, Option.getD_some]; rfl) ?aO ?aR (fun _ _ h => h) (fun _ h => h.elim) ?aF ?aB ?aS ?aL ?_
     (case aR => repeat (first | exact (Kd.R_reads' HO157.out).2.2 | (with_reducible refine Kd.C_alloc ?_ _) | (with_reducible refine Kd.C_drewN ?_ _) | (with_reducible refine Kd.C_drew ?_)))
     (case aB => exact (by repeat (first | (with_reducible first | exact HB.out | apply below_alloc | apply pw_below_drewN | apply below_drew1 | refine below_set ?_ GE142.out | refine below_set ?_ GE143.out | refine below_set ?_ GE144.out) | exact HB.out)))
     (case aF => exact (fun k_ hk => Kd.freshB (g := gb143) (o := .cells #[.int .i64 a1_0, .int .i64 a1_1, .int .i64 a1_2, .int .i64 a1_3] 34 (0, 0)) (by (with_reducible repeat (first | refine blk_drewN ?_ _ | refine blk_drew ?_ | refine blk_alloc ?_ _)); exact BK143.out) k_ hk))
     (case aO => exact (by (with_reducible repeat (first | apply Kd.R_alloc | apply Kd.R_drewN | apply Kd.R_drew)); exact HO154.out))
     (case aS => exact (below_size (by repeat (first | (with_reducible first | exact HB.out | apply below_alloc | apply pw_below_drewN | apply below_drew1 | refine below_set ?_ GE142.out | refine below_set ?_ GE143.out | refine below_set ?_ GE144.out) | exact HB.out))))
     (case aL => have := LMc8.out; omega)
     intro v159 w26 ho hb hg hat
     rw [← Ny158.out] at ho
     have n0_ := Aside0.mk (blk_grown (g := gb142) (o := .cells #[.int .i64 a0_0, .int .i64 a0_1, .slice A0_2 l0_2.length c0_2, .slice A0_3 l0_3.length c0_3, .slice A0_4 l0_4.length c0_4] 25 (0, 0)) (by (with_reducible repeat (first | refine blk_drewN ?_ _ | refine blk_drew ?_ | refine blk_alloc ?_ _)); exact BK142.out) hg (Kd.R_ne HO154.out BK142.out (by decide)))
     have n1_ := Aside0.mk (blk_grown (g := gb143) (o := .cells #[.int .i64 a1_0, .int .i64 a1_1, .int .i64 a1_2, .int .i64 a1_3] 34 (0, 0)) (by (with_reducible repeat (first | refine blk_drewN ?_ _ | refine blk_drew ?_ | refine blk_alloc ?_ _)); exact BK143.out) hg (Kd.R_away HO154.out (fun _ hk => hk)))
     have n2_ := Aside0.mk (blk_grown (g := gb144) (o := .cells #[.int .i64 0, .int .i64 0, .slice none 0 0, .slice none 0 0, .slice none 0 0] 25 (0, 0)) (by (with_reducible repeat (first | refine blk_drewN ?_ _ | refine blk_drew ?_ | refine blk_alloc ?_ _)); exact BK144.out) hg (Kd.R_ne HO154.out BK144.out (by decide)))
     have n3_ := Aside0.mk (Kd.R_over' (by (with_reducible repeat (first | apply Kd.R_alloc | apply Kd.R_drewN | apply Kd.R_drew)); exact HO148.out) (Kd.R_typed (by (with_reducible repeat (first | apply Kd.R_alloc | apply Kd.R_drewN | apply Kd.R_drew)); exact HO154.out)) (by decide) hg)
     have n4_ := Aside0.mk (Kd.R_over' (by (with_reducible repeat (first | apply Kd.R_alloc | apply Kd.R_drewN | apply Kd.R_drew)); exact HO151.out) (Kd.R_typed (by (with_reducible repeat (first | apply Kd.R_alloc | apply Kd.R_drewN | apply Kd.R_drew)); exact HO154.out)) (by decide) hg)
     have n5_ := Aside0.mk trivial
     have n6_ := Aside0.mk (hb)
     have n7_ := Aside0.mk (ho)
     have z_BK161 := fun (h0_ : b 17 = true) (h1_ : b 18 = false) => (show w26.heap[gb161]? = some (.cells #[.int .i64 0, .int .i64 0, .slice none 0 0, .slice none 0 0, .slice none 0 0] 25 (0, 0)) from by first | exact (blk_grown (g := gb161) (o := .cells #[.int .i64 0, .int .i64 0, .slice none 0 0, .slice none 0 0, .slice none 0 0] 25 (0, 0)) (by (with_reducible repeat (first | refine blk_drewN ?_ _ | refine blk_drew ?_ | refine blk_alloc ?_ _)); exact (Q_BK161 h0_ h1_)) hg (Kd.R_ne HO154.out (Q_BK161 h0_ h1_) (by decide))))
     clear BK142
     clear BK143
     clear BK144
     clear HO148
     clear HO151
     clear HO157
     clear HB
     clear HO154
     have BK142 := n0_
     have BK143 := n1_
     have BK144 := n2_
     have HO148 := n3_
     have HO151 := n4_
     have HO157 := n5_
     have HB := n6_
     have HO160 := n7_
     clear n0_ n1_ n2_ n3_ n4_ n5_ n6_ n7_
     clear ho hb hg hat
     obtain ⟨Ao28, co28, eo28⟩ := Kd.R_slice HO160.out
     (first | subst eo28 | (injection eo28 with f1_ f2_ f3_; have f4_ := f1_.symm; have f5_ := f3_.symm; clear f1_ f2_ f3_; subst f4_; subst f5_))
     obtain ⟨Ao29, co29, eo29⟩ := Kd.R_slice HO151.out
     (first | subst eo29 | (injection eo29 with f1_ f2_ f3_; have f4_ := f1_.symm; have f5_ := f3_.symm; clear f1_ f2_ f3_; subst f4_; subst f5_))
     obtain ⟨Ao30, co30, eo30⟩ := Kd.R_slice HO148.out
     (first | subst eo30 | (injection eo30 with f1_ f2_ f3_; have f4_ := f1_.symm; have f5_ := f3_.symm; clear f1_ f2_ f3_; subst f4_; subst f5_))
     refine hK.out _ _ ⟨.slice Ao30 t146.length co30, .slice Ao29 t149.length co29, v153, .slice Ao27 y155.length co27, .slice Ao28 y158.length co28, gb161, m16_, m17_, (by rw [ha.out]; exact putSel_upk 10 hb_ rfl rfl rfl), (by (with_reducible repeat (first | refine blk_drewN ?_ _ | refine blk_drew ?_ | refine blk_alloc ?_ _)); exact BK142.out), (by (with_reducible repeat (first | refine blk_drewN ?_ _ | refine blk_drew ?_ | refine blk_alloc ?_ _)); exact BK143.out), (by (with_reducible repeat (first | refine blk_drewN ?_ _ | refine blk_drew ?_ | refine blk_alloc ?_ _)); exact BK144.out), (by repeat (first | (with_reducible first | exact HB.out | apply below_alloc | apply pw_below_drewN | apply below_drew1 | refine below_set ?_ GE142.out | refine below_set ?_ GE143.out | refine below_set ?_ GE144.out) | exact HB.out)), fun _ => (by (with_reducible repeat (first | apply Kd.R_alloc | apply Kd.R_drewN | apply Kd.R_drew)); exact HO148.out), fun _ => (by (with_reducible repeat (first | apply Kd.R_alloc | apply Kd.R_drewN | apply Kd.R_drew)); exact HO151.out), fun _ h1_ => absurd ((up_self b 15).symm.trans h1_) (by decide), fun _ h1_ => absurd ((up_self b 15).symm.trans h1_) (by decide), fun _ => (by (with_reducible repeat (first | apply Kd.R_alloc | apply Kd.R_drewN | apply Kd.R_drew)); exact HO160.out), z_BK161, Q_GW161, Q_GE161, Q_NB142_161, Q_NB161_142, Q_NB143_161, Q_NB161_143, Q_NB144_161, Q_NB161_144, fun h0_ => absurd ((hoff 18 (by kernel_rfl)).symm.trans h0_) (by decide), fun h0_ => absurd ((hoff 16 (by kernel_rfl)).symm.trans h0_) (by decide), Q_X17_, Q_SEP⟩
    refine steps_cons ?_ ?_
    ·
     rintro b a w' ⟨v147, v150, v153, v156, v159, gb161, m16_, m17_, ha, Q_BK142, Q_BK143, Q_BK144, Q_HB, Q_HO148, Q_HO151, Q_HO154, Q_HO157, Q_HO160, Q_BK161, Q_GW161, Q_GE161, Q_NB142_161, Q_NB161_142, Q_NB143_161, Q_NB161_143, Q_NB144_161, Q_NB161_144, Q_BK161_e18, Q_X16_, Q_X17_, Q_SEP⟩ hb_ hon hoff
     refine ⟨_, rfl, fun K hK => ?_⟩
     have e16 : a.tmps[16]? = some (.int .i64 a0_0) := by rw [ha]; exact putSel_on (e := (1, 16, .int .i64 a0_0)) 0 rfl rfl (hon 1 (by kernel_rfl)) rfl
     have e18 : a.tmps[18]? = some (.int .i64 a0_1) := by rw [ha]; exact putSel_on (e := (3, 18, .int .i64 a0_1)) 1 rfl rfl (hon 3 (by kernel_rfl)) rfl
     have e21 : a.tmps[21]? = some (v147) := by rw [ha]; exact putSel_on (e := (6, 21, v147)) 3 rfl rfl (hon 6 (by kernel_rfl)) rfl
     have e24 : a.tmps[24]? = some (v150) := by rw [ha]; exact putSel_on (e := (9, 24, v150)) 5 rfl rfl (hon 9 (by kernel_rfl)) rfl
     have e30 : a.tmps[30]? = some (v159) := by rw [ha]; exact putSel_on (e := (15, 30, v159)) 10 rfl rfl (hon 15 (by kernel_rfl)) rfl
     replace ha := Aside0.mk ha
     have BK142 := Aside0.mk Q_BK142
     have BK143 := Aside0.mk Q_BK143
     have BK144 := Aside0.mk Q_BK144
     have HB := Aside0.mk Q_HB
     have HO148 := Aside0.mk (Q_HO148 (hon 6 (by kernel_rfl)))
     have HO151 := Aside0.mk (Q_HO151 (hon 9 (by kernel_rfl)))
     have HO160 := Aside0.mk (Q_HO160 (hon 15 (by kernel_rfl)))
     obtain ⟨Ao16_0, co16_0, eo_⟩ := Kd.R_slice HO148.out
     subst eo_
     obtain ⟨Ao16_1, co16_1, eo_⟩ := Kd.R_slice HO151.out
     subst eo_
     obtain ⟨Ao16_2, co16_2, eo_⟩ := Kd.R_slice HO160.out
     subst eo_
     refine value_ (w1 := w') (v := .agg #[.int .i64 a0_0, .int .i64 a0_1, .slice Ao16_0 t146.length co16_0, .slice Ao16_1 t149.length co16_1, .slice Ao16_2 y158.length co16_2]) (by rfl) rfl ?_ ?_
     ·
      go_simp
      (try simp only [i64_w])
      try rfl
     refine hK.out _ _ ⟨.slice Ao16_0 t146.length co16_0, .slice Ao16_1 t149.length co16_1, v153, v156, .slice Ao16_2 y158.length co16_2, gb161, (.agg #[.int .i64 a0_0, .int .i64 a0_1, .slice Ao16_0 t146.length co16_0, .slice Ao16_1 t149.length co16_1, .slice Ao16_2 y158.length co16_2]), m17_, (by rw [ha.out]; exact putSel_upk 11 hb_ rfl rfl rfl), Q_BK142, Q_BK143, Q_BK144, Q_HB, Q_HO148, Q_HO151, fun _ h1_ => absurd ((hon 15 (by kernel_rfl)).symm.trans h1_) (by decide), Q_HO157, Q_HO160, Q_BK161, Q_GW161, Q_GE161, Q_NB142_161, Q_NB161_142, Q_NB143_161, Q_NB161_143, Q_NB144_161, Q_NB161_144, fun h0_ => absurd ((hoff 18 (by kernel_rfl)).symm.trans h0_) (by decide), fun _ => rfl, Q_X17_, Q_SEP⟩
    refine steps_cons ?_ ?_
    ·
     rintro b a w' ⟨v147, v150, v153, v156, v159, gb161, m16_, m17_, ha, Q_BK142, Q_BK143, Q_BK144, Q_HB, Q_HO148, Q_HO151, Q_HO154, Q_HO157, Q_HO160, Q_BK161, Q_GW161, Q_GE161, Q_NB142_161, Q_NB161_142, Q_NB143_161, Q_NB161_143, Q_NB144_161, Q_NB161_144, Q_BK161_e18, Q_X16_, Q_X17_, Q_SEP⟩ hb_ hon hoff
     refine ⟨_, rfl, fun K hK => ?_⟩
     replace ha := Aside0.mk ha
     have BK142 := Aside0.mk Q_BK142
     have BK143 := Aside0.mk Q_BK143
     have BK144 := Aside0.mk Q_BK144
     have HB := Aside0.mk Q_HB
     refine box_step ?hg (N := 7) ?hd (cs := #[.int .i64 0, .int .i64 0, .slice none 0 0, .slice none 0 0, .slice none 0 0]) (t := 25) ?hr ?_; (case hd => rfl); (case hg => rfl); (case hr => first | (go_simp; done) | (go_simp; rfl))
     intro gb161 hg w20 hbox hb
     have n0_ := Aside0.mk (blk_below (g := gb142) (o := .cells #[.int .i64 a0_0, .int .i64 a0_1, .slice A0_2 l0_2.length c0_2, .slice A0_3 l0_3.length c0_3, .slice A0_4 l0_4.length c0_4] 25 (0, 0)) (by (with_reducible repeat (first | refine blk_drewN ?_ _ | refine blk_drew ?_ | refine blk_alloc ?_ _)); exact BK142.out) hb)
     have n1_ := Aside0.mk (blk_below (g := gb143) (o := .cells #[.int .i64 a1_0, .int .i64 a1_1, .int .i64 a1_2, .int .i64 a1_3] 34 (0, 0)) (by (with_reducible repeat (first | refine blk_drewN ?_ _ | refine blk_drew ?_ | refine blk_alloc ?_ _)); exact BK143.out) hb)
     have n2_ := Aside0.mk (blk_below (g := gb144) (o := .cells #[.int .i64 0, .int .i64 0, .slice none 0 0, .slice none 0 0, .slice none 0 0] 25 (0, 0)) (by (with_reducible repeat (first | refine blk_drewN ?_ _ | refine blk_drew ?_ | refine blk_alloc ?_ _)); exact BK144.out) hb)
     have n3_ := Aside0.mk (below_step (by repeat (first | (with_reducible first | exact HB.out | apply below_alloc | apply pw_below_drewN | apply below_drew1 | refine below_set ?_ GE142.out | refine below_set ?_ GE143.out | refine below_set ?_ GE144.out) | exact HB.out)) hb)
     have n4_ := Aside0.mk (hbox)
     have n5_ := Aside0.mk ((by rw [hg]; exact (below_size (by repeat (first | (with_reducible first | exact HB.out | apply below_alloc | apply pw_below_drewN | apply below_drew1 | refine below_set ?_ GE142.out | refine below_set ?_ GE143.out | refine below_set ?_ GE144.out) | exact HB.out))) : w.heap.size ≤ gb161))
     have n6_ := Aside0.mk ((by rw [hg]; exact (below_size (by repeat (first | (with_reducible first | exact HB.out | apply below_alloc | apply pw_below_drewN | apply below_drew1 | refine below_set ?_ GE142.out | refine below_set ?_ GE143.out | refine below_set ?_ GE144.out) | exact HB.out))) : w.heap.size ≤ gb161))
     have n7_ := Aside0.mk ((by rw [hg]; exact Nat.ne_of_lt (blk_lt (g := gb142) (o := .cells #[.int .i64 a0_0, .int .i64 a0_1, .slice A0_2 l0_2.length c0_2, .slice A0_3 l0_3.length c0_3, .slice A0_4 l0_4.length c0_4] 25 (0, 0)) (by (with_reducible repeat (first | refine blk_drewN ?_ _ | refine blk_drew ?_ | refine blk_alloc ?_ _)); exact BK142.out)) : gb142 ≠ gb161))
     have n8_ := Aside0.mk ((by rw [hg]; exact Nat.ne_of_gt (blk_lt (g := gb142) (o := .cells #[.int .i64 a0_0, .int .i64 a0_1, .slice A0_2 l0_2.length c0_2, .slice A0_3 l0_3.length c0_3, .slice A0_4 l0_4.length c0_4] 25 (0, 0)) (by (with_reducible repeat (first | refine blk_drewN ?_ _ | refine blk_drew ?_ | refine blk_alloc ?_ _)); exact BK142.out)) : gb161 ≠ gb142))
     have n9_ := Aside0.mk ((by rw [hg]; exact Nat.ne_of_lt (blk_lt (g := gb143) (o := .cells #[.int .i64 a1_0, .int .i64 a1_1, .int .i64 a1_2, .int .i64 a1_3] 34 (0, 0)) (by (with_reducible repeat (first | refine blk_drewN ?_ _ | refine blk_drew ?_ | refine blk_alloc ?_ _)); exact BK143.out)) : gb143 ≠ gb161))
     have n10_ := Aside0.mk ((by rw [hg]; exact Nat.ne_of_gt (blk_lt (g := gb143) (o := .cells #[.int .i64 a1_0, .int .i64 a1_1, .int .i64 a1_2, .int .i64 a1_3] 34 (0, 0)) (by (with_reducible repeat (first | refine blk_drewN ?_ _ | refine blk_drew ?_ | refine blk_alloc ?_ _)); exact BK143.out)) : gb161 ≠ gb143))
     have n11_ := Aside0.mk ((by rw [hg]; exact Nat.ne_of_lt (blk_lt (g := gb144) (o := .cells #[.int .i64 0, .int .i64 0, .slice none 0 0, .slice none 0 0, .slice none 0 0] 25 (0, 0)) (by (with_reducible repeat (first | refine blk_drewN ?_ _ | refine blk_drew ?_ | refine blk_alloc ?_ _)); exact BK144.out)) : gb144 ≠ gb161))
     have n12_ := Aside0.mk ((by rw [hg]; exact Nat.ne_of_gt (blk_lt (g := gb144) (o := .cells #[.int .i64 0, .int .i64 0, .slice none 0 0, .slice none 0 0, .slice none 0 0] 25 (0, 0)) (by (with_reducible repeat (first | refine blk_drewN ?_ _ | refine blk_drew ?_ | refine blk_alloc ?_ _)); exact BK144.out)) : gb161 ≠ gb144))
     have z_HO148 := fun (h0_ : b 6 = true) => (show Kd.R (Kd.int .i64) 3 w20 w.heap.size (fun _ => True) v147 t146 from by first | exact (Kd.R_below (by (with_reducible repeat (first | apply Kd.R_alloc | apply Kd.R_drewN | apply Kd.R_drew)); exact (Q_HO148 h0_)) hb) | exact Kd.R_mono (Kd.R_below (by (with_reducible repeat (first | apply Kd.R_alloc | apply Kd.R_drewN | apply Kd.R_drew)); exact (Q_HO148 h0_)) hb) (fun _ h_ => by first | trivial | exact h_ | exact h_.1))
     have z_HO151 := fun (h0_ : b 9 = true) => (show Kd.R (Kd.int .i64) 3 w20 w.heap.size (fun _ => True) v150 t149 from by first | exact (Kd.R_below (by (with_reducible repeat (first | apply Kd.R_alloc | apply Kd.R_drewN | apply Kd.R_drew)); exact (Q_HO151 h0_)) hb) | exact Kd.R_mono (Kd.R_below (by (with_reducible repeat (first | apply Kd.R_alloc | apply Kd.R_drewN | apply Kd.R_drew)); exact (Q_HO151 h0_)) hb) (fun _ h_ => by first | trivial | exact h_ | exact h_.1))
     have z_HO154 := fun (h0_ : b 12 = true) (h1_ : b 15 = false) => (show Kd.R k34 34 w20 w.heap.size (fun k_ => k_ ≠ gb143) v153 t152 from by first | exact (Kd.R_below (by (with_reducible repeat (first | apply Kd.R_alloc | apply Kd.R_drewN | apply Kd.R_drew)); exact (Q_HO154 h0_ h1_)) hb) | exact Kd.R_mono (Kd.R_below (by (with_reducible repeat (first | apply Kd.R_alloc | apply Kd.R_drewN | apply Kd.R_drew)); exact (Q_HO154 h0_ h1_)) hb) (fun _ h_ => by first | trivial | exact h_ | exact h_.1))
     have z_HO157 := fun (h0_ : b 14 = true) (h15_ : b 15 = false) => (show Kd.R k34 34 w20 w.heap.size (fun k_ => k_ ≠ gb143) v156 y155 from by first | exact (Kd.R_below (by (with_reducible repeat (first | apply Kd.R_alloc | apply Kd.R_drewN | apply Kd.R_drew)); exact (Q_HO157 h0_ h15_)) hb) | exact Kd.R_mono (Kd.R_below (by (with_reducible repeat (first | apply Kd.R_alloc | apply Kd.R_drewN | apply Kd.R_drew)); exact (Q_HO157 h0_ h15_)) hb) (fun _ h_ => by first | trivial | exact h_ | exact h_.1))
     have z_HO160 := fun (h0_ : b 15 = true) => (show Kd.R k34 34 w20 w.heap.size (fun k_ => k_ ≠ gb143) v159 y158 from by first | exact (Kd.R_below (by (with_reducible repeat (first | apply Kd.R_alloc | apply Kd.R_drewN | apply Kd.R_drew)); exact (Q_HO160 h0_)) hb) | exact Kd.R_mono (Kd.R_below (by (with_reducible repeat (first | apply Kd.R_alloc | apply Kd.R_drewN | apply Kd.R_drew)); exact (Q_HO160 h0_)) hb) (fun _ h_ => by first | trivial | exact h_ | exact h_.1))
     clear BK142
     clear BK143
     clear BK144
     clear HB
     have BK142 := n0_
     have BK143 := n1_
     have BK144 := n2_
     have HB := n3_
     have BK161 := n4_
     have GW161 := n5_
     have GE161 := n6_
     have NB142_161 := n7_
     have NB161_142 := n8_
     have NB143_161 := n9_
     have NB161_143 := n10_
     have NB144_161 := n11_
     have NB161_144 := n12_
     clear n0_ n1_ n2_ n3_ n4_ n5_ n6_ n7_ n8_ n9_ n10_ n11_ n12_
     clear hb hbox hg
     refine hK.out _ _ ⟨v147, v150, v153, v156, v159, gb161, m16_, (.pointer (some ⟨gb161, 0, none⟩)), (by rw [ha.out]; exact putSel_upk 12 hb_ rfl rfl rfl), (by (with_reducible repeat (first | refine blk_drewN ?_ _ | refine blk_drew ?_ | refine blk_alloc ?_ _)); exact BK142.out), (by (with_reducible repeat (first | refine blk_drewN ?_ _ | refine blk_drew ?_ | refine blk_alloc ?_ _)); exact BK143.out), (by (with_reducible repeat (first | refine blk_drewN ?_ _ | refine blk_drew ?_ | refine blk_alloc ?_ _)); exact BK144.out), (by repeat (first | (with_reducible first | exact HB.out | apply below_alloc | apply pw_below_drewN | apply below_drew1 | refine below_set ?_ GE142.out | refine below_set ?_ GE143.out | refine below_set ?_ GE144.out | refine below_set ?_ GE161.out) | exact HB.out)), z_HO148, z_HO151, z_HO154, z_HO157, z_HO160, fun _ _ => (by (with_reducible repeat (first | refine blk_drewN ?_ _ | refine blk_drew ?_ | refine blk_alloc ?_ _)); exact BK161.out), fun _ => GW161.out, fun _ => GE161.out, fun _ => NB142_161.out, fun _ => NB161_142.out, fun _ => NB143_161.out, fun _ => NB161_143.out, fun _ => NB144_161.out, fun _ => NB161_144.out, fun h0_ => absurd ((hoff 18 (by kernel_rfl)).symm.trans h0_) (by decide), Q_X16_, fun _ => rfl, Q_SEP⟩
    refine steps_cons ?_ ?_
    ·
     rintro b a w' ⟨v147, v150, v153, v156, v159, gb161, m16_, m17_, ha, Q_BK142, Q_BK143, Q_BK144, Q_HB, Q_HO148, Q_HO151, Q_HO154, Q_HO157, Q_HO160, Q_BK161, Q_GW161, Q_GE161, Q_NB142_161, Q_NB161_142, Q_NB143_161, Q_NB161_143, Q_NB144_161, Q_NB161_144, Q_BK161_e18, Q_X16_, Q_X17_, Q_SEP⟩ hb_ hon hoff
     refine ⟨_, rfl, fun K hK => ?_⟩
     have e7 : a.tmps[7]? = some (m17_) := by rw [ha]; exact putSel_on (e := (17, 7, m17_)) 12 rfl rfl (hon 17 (by kernel_rfl)) rfl
     rw [Q_X17_ (hon 17 (by kernel_rfl))] at e7
     have e31 : a.tmps[31]? = some (m16_) := by rw [ha]; exact putSel_on (e := (16, 31, m16_)) 11 rfl rfl (hon 16 (by kernel_rfl)) rfl
     rw [Q_X16_ (hon 16 (by kernel_rfl))] at e31
     replace ha := Aside0.mk ha
     have BK142 := Aside0.mk Q_BK142
     have BK143 := Aside0.mk Q_BK143
     have BK144 := Aside0.mk Q_BK144
     have HB := Aside0.mk Q_HB
     have HO148 := Aside0.mk (Q_HO148 (hon 6 (by kernel_rfl)))
     have HO151 := Aside0.mk (Q_HO151 (hon 9 (by kernel_rfl)))
     have HO160 := Aside0.mk (Q_HO160 (hon 15 (by kernel_rfl)))
     have BK161 := Aside0.mk (Q_BK161 (hon 17 (by kernel_rfl)) hb_)
     have GW161 := Aside0.mk (Q_GW161 (hon 17 (by kernel_rfl)))
     have GE161 := Aside0.mk (Q_GE161 (hon 17 (by kernel_rfl)))
     have NB142_161 := Aside0.mk (Q_NB142_161 (hon 17 (by kernel_rfl)))
     have NB161_142 := Aside0.mk (Q_NB161_142 (hon 17 (by kernel_rfl)))
     have NB143_161 := Aside0.mk (Q_NB143_161 (hon 17 (by kernel_rfl)))
     have NB161_143 := Aside0.mk (Q_NB161_143 (hon 17 (by kernel_rfl)))
     have NB144_161 := Aside0.mk (Q_NB144_161 (hon 17 (by kernel_rfl)))
     have NB161_144 := Aside0.mk (Q_NB161_144 (hon 17 (by kernel_rfl)))
     obtain ⟨Ao32, co32, eo32⟩ := Kd.R_slice HO160.out
     (first | subst eo32 | (injection eo32 with f1_ f2_ f3_; have f4_ := f1_.symm; have f5_ := f3_.symm; clear f1_ f2_ f3_; subst f4_; subst f5_))
     obtain ⟨Ao33, co33, eo33⟩ := Kd.R_slice HO151.out
     (first | subst eo33 | (injection eo33 with f1_ f2_ f3_; have f4_ := f1_.symm; have f5_ := f3_.symm; clear f1_ f2_ f3_; subst f4_; subst f5_))
     obtain ⟨Ao34, co34, eo34⟩ := Kd.R_slice HO148.out
     (first | subst eo34 | (injection eo34 with f1_ f2_ f3_; have f4_ := f1_.symm; have f5_ := f3_.symm; clear f1_ f2_ f3_; subst f4_; subst f5_))
     have hs35 : w'.cell? ⟨gb161, 0, none⟩ = some (.int .i64 0) := (blk_cell BK161.out 0).trans rfl
     have hfs35 := blk_frozen BK161.out 0
     have hns35_0 := NB142_161.out
     have hns35_1 := NB143_161.out
     have hns35_2 := NB144_161.out
     have hms35_0 := NB161_142.out
     have hms35_1 := NB161_143.out
     have hms35_2 := NB161_144.out
     have hs36 : w'.cell? ⟨gb161, 1, none⟩ = some (.int .i64 0) := (blk_cell BK161.out 1).trans rfl
     have hfs36 := blk_frozen BK161.out 1
     have hns36_0 := NB142_161.out
     have hns36_1 := NB143_161.out
     have hns36_2 := NB144_161.out
     have hms36_0 := NB161_142.out
     have hms36_1 := NB161_143.out
     have hms36_2 := NB161_144.out
     have hs37 : w'.cell? ⟨gb161, 2, none⟩ = some (.slice none 0 0) := (blk_cell BK161.out 2).trans rfl
     have hfs37 := blk_frozen BK161.out 2
     have hns37_0 := NB142_161.out
     have hns37_1 := NB143_161.out
     have hns37_2 := NB144_161.out
     have hms37_0 := NB161_142.out
     have hms37_1 := NB161_143.out
     have hms37_2 := NB161_144.out
     have hs38 : w'.cell? ⟨gb161, 3, none⟩ = some (.slice none 0 0) := (blk_cell BK161.out 3).trans rfl
     have hfs38 := blk_frozen BK161.out 3
     have hns38_0 := NB142_161.out
     have hns38_1 := NB143_161.out
     have hns38_2 := NB144_161.out
     have hms38_0 := NB161_142.out
     have hms38_1 := NB161_143.out
     have hms38_2 := NB161_144.out
     have hs39 : w'.cell? ⟨gb161, 4, none⟩ = some (.slice none 0 0) := (blk_cell BK161.out 4).trans rfl
     have hfs39 := blk_frozen BK161.out 4
     have hns39_0 := NB142_161.out
     have hns39_1 := NB143_161.out
     have hns39_2 := NB144_161.out
     have hms39_0 := NB161_142.out
     have hms39_1 := NB161_143.out
     have hms39_2 := NB161_144.out
     refine skip_ (w1 := ?_) (by rfl) rfl ?_ ?_
     rotate_left
     ·
      go_simp
      rfl
     refine hK.out _ _ ⟨.slice Ao34 t146.length co34, .slice Ao33 t149.length co33, v153, v156, .slice Ao32 y158.length co32, gb161, m16_, m17_, (by rw [ha.out]; exact putSel_none (v := undef) rfl), (by (with_reducible repeat (first | refine blk_drewN ?_ _ | refine blk_drew ?_ | refine blk_alloc ?_ _)); refine blk_far ?_ NB142_161.out _; (with_reducible repeat (first | refine blk_drewN ?_ _ | refine blk_drew ?_ | refine blk_alloc ?_ _)); refine blk_far ?_ NB142_161.out _; (with_reducible repeat (first | refine blk_drewN ?_ _ | refine blk_drew ?_ | refine blk_alloc ?_ _)); refine blk_far ?_ NB142_161.out _; (with_reducible repeat (first | refine blk_drewN ?_ _ | refine blk_drew ?_ | refine blk_alloc ?_ _)); refine blk_far ?_ NB142_161.out _; (with_reducible repeat (first | refine blk_drewN ?_ _ | refine blk_drew ?_ | refine blk_alloc ?_ _)); refine blk_far ?_ NB142_161.out _; (with_reducible repeat (first | refine blk_drewN ?_ _ | refine blk_drew ?_ | refine blk_alloc ?_ _)); exact BK142.out), (by (with_reducible repeat (first | refine blk_drewN ?_ _ | refine blk_drew ?_ | refine blk_alloc ?_ _)); refine blk_far ?_ NB143_161.out _; (with_reducible repeat (first | refine blk_drewN ?_ _ | refine blk_drew ?_ | refine blk_alloc ?_ _)); refine blk_far ?_ NB143_161.out _; (with_reducible repeat (first | refine blk_drewN ?_ _ | refine blk_drew ?_ | refine blk_alloc ?_ _)); refine blk_far ?_ NB143_161.out _; (with_reducible repeat (first | refine blk_drewN ?_ _ | refine blk_drew ?_ | refine blk_alloc ?_ _)); refine blk_far ?_ NB143_161.out _; (with_reducible repeat (first | refine blk_drewN ?_ _ | refine blk_drew ?_ | refine blk_alloc ?_ _)); refine blk_far ?_ NB143_161.out _; (with_reducible repeat (first | refine blk_drewN ?_ _ | refine blk_drew ?_ | refine blk_alloc ?_ _)); exact BK143.out), (by (with_reducible repeat (first | refine blk_drewN ?_ _ | refine blk_drew ?_ | refine blk_alloc ?_ _)); refine blk_far ?_ NB144_161.out _; (with_reducible repeat (first | refine blk_drewN ?_ _ | refine blk_drew ?_ | refine blk_alloc ?_ _)); refine blk_far ?_ NB144_161.out _; (with_reducible repeat (first | refine blk_drewN ?_ _ | refine blk_drew ?_ | refine blk_alloc ?_ _)); refine blk_far ?_ NB144_161.out _; (with_reducible repeat (first | refine blk_drewN ?_ _ | refine blk_drew ?_ | refine blk_alloc ?_ _)); refine blk_far ?_ NB144_161.out _; (with_reducible repeat (first | refine blk_drewN ?_ _ | refine blk_drew ?_ | refine blk_alloc ?_ _)); refine blk_far ?_ NB144_161.out _; (with_reducible repeat (first | refine blk_drewN ?_ _ | refine blk_drew ?_ | refine blk_alloc ?_ _)); exact BK144.out), (by repeat (first | (with_reducible first | exact HB.out | apply below_alloc | apply pw_below_drewN | apply below_drew1 | refine below_set ?_ GE142.out | refine below_set ?_ GE143.out | refine below_set ?_ GE144.out | refine below_set ?_ GE161.out) | exact HB.out)), fun _ => (by (with_reducible repeat (first | apply Kd.R_alloc | apply Kd.R_drewN | apply Kd.R_drew)); exact Kd.R_mono (Kd.R_far (p := ⟨gb161, 4, none⟩) (Kd.R_far (p := ⟨gb161, 3, none⟩) (Kd.R_far (p := ⟨gb161, 2, none⟩) (Kd.R_far (p := ⟨gb161, 1, none⟩) (Kd.R_far (p := ⟨gb161, 0, none⟩) (Kd.R_types HO148.out BK161.out (by decide)) (fun _ hk => hk.2) (.int .i64 a0_0)) (fun _ hk => hk.2) (.int .i64 a0_1)) (fun _ hk => hk.2) (.slice Ao34 t146.length co34)) (fun _ hk => hk.2) (.slice Ao33 t149.length co33)) (fun _ hk => hk.2) (.slice Ao32 y158.length co32)) (fun _ hk => hk.1)), fun _ => (by (with_reducible repeat (first | apply Kd.R_alloc | apply Kd.R_drewN | apply Kd.R_drew)); exact Kd.R_mono (Kd.R_far (p := ⟨gb161, 4, none⟩) (Kd.R_far (p := ⟨gb161, 3, none⟩) (Kd.R_far (p := ⟨gb161, 2, none⟩) (Kd.R_far (p := ⟨gb161, 1, none⟩) (Kd.R_far (p := ⟨gb161, 0, none⟩) (Kd.R_types HO151.out BK161.out (by decide)) (fun _ hk => hk.2) (.int .i64 a0_0)) (fun _ hk => hk.2) (.int .i64 a0_1)) (fun _ hk => hk.2) (.slice Ao34 t146.length co34)) (fun _ hk => hk.2) (.slice Ao33 t149.length co33)) (fun _ hk => hk.2) (.slice Ao32 y158.length co32)) (fun _ hk => hk.1)), fun _ h1_ => absurd ((hon 15 (by kernel_rfl)).symm.trans h1_) (by decide), fun _ h1_ => absurd ((hon 15 (by kernel_rfl)).symm.trans h1_) (by decide), fun _ => (by (with_reducible repeat (first | apply Kd.R_alloc | apply Kd.R_drewN | apply Kd.R_drew)); exact Kd.R_mono (Kd.R_far (p := ⟨gb161, 4, none⟩) (Kd.R_far (p := ⟨gb161, 3, none⟩) (Kd.R_far (p := ⟨gb161, 2, none⟩) (Kd.R_far (p := ⟨gb161, 1, none⟩) (Kd.R_far (p := ⟨gb161, 0, none⟩) (Kd.R_types HO160.out BK161.out (by decide)) (fun _ hk => hk.2) (.int .i64 a0_0)) (fun _ hk => hk.2) (.int .i64 a0_1)) (fun _ hk => hk.2) (.slice Ao34 t146.length co34)) (fun _ hk => hk.2) (.slice Ao33 t149.length co33)) (fun _ hk => hk.2) (.slice Ao32 y158.length co32)) (fun _ hk => hk.1)), fun _ h1_ => absurd ((up_self b 18).symm.trans h1_) (by decide), fun _ => GW161.out, fun _ => GE161.out, fun _ => NB142_161.out, fun _ => NB161_142.out, fun _ => NB143_161.out, fun _ => NB161_143.out, fun _ => NB144_161.out, fun _ => NB161_144.out, fun _ => (by (with_reducible repeat (first | refine blk_drewN ?_ _ | refine blk_drew ?_ | refine blk_alloc ?_ _)); refine blk_put (cs := #[.int .i64 a0_0, .int .i64 a0_1, .slice Ao34 t146.length co34, .slice Ao33 t149.length co33, .slice none 0 0]) ?_ 4 _ rfl; (with_reducible repeat (first | refine blk_drewN ?_ _ | refine blk_drew ?_ | refine blk_alloc ?_ _)); refine blk_put (cs := #[.int .i64 a0_0, .int .i64 a0_1, .slice Ao34 t146.length co34, .slice none 0 0, .slice none 0 0]) ?_ 3 _ rfl; (with_reducible repeat (first | refine blk_drewN ?_ _ | refine blk_drew ?_ | refine blk_alloc ?_ _)); refine blk_put (cs := #[.int .i64 a0_0, .int .i64 a0_1, .slice none 0 0, .slice none 0 0, .slice none 0 0]) ?_ 2 _ rfl; (with_reducible repeat (first | refine blk_drewN ?_ _ | refine blk_drew ?_ | refine blk_alloc ?_ _)); refine blk_put (cs := #[.int .i64 a0_0, .int .i64 0, .slice none 0 0, .slice none 0 0, .slice none 0 0]) ?_ 1 _ rfl; (with_reducible repeat (first | refine blk_drewN ?_ _ | refine blk_drew ?_ | refine blk_alloc ?_ _)); refine blk_put (cs := #[.int .i64 0, .int .i64 0, .slice none 0 0, .slice none 0 0, .slice none 0 0]) ?_ 0 _ rfl; (with_reducible repeat (first | refine blk_drewN ?_ _ | refine blk_drew ?_ | refine blk_alloc ?_ _)); exact BK161.out), Q_X16_, Q_X17_, Q_SEP⟩
    exact steps_nil
   rintro b a w36 hall ⟨v147, v150, v153, v156, v159, gb161, m16_, m17_, ha, Q_BK142, Q_BK143, Q_BK144, Q_HB, Q_HO148, Q_HO151, Q_HO154, Q_HO157, Q_HO160, Q_BK161, Q_GW161, Q_GE161, Q_NB142_161, Q_NB161_142, Q_NB143_161, Q_NB161_143, Q_NB144_161, Q_NB161_144, Q_BK161_e18, Q_X16_, Q_X17_, Q_SEP⟩
   clear BK142 BK143 BK144 HB
   have hb1_ := hall 1 (by kernel_rfl)
   have hb3_ := hall 3 (by kernel_rfl)
   have hb5_ := hall 5 (by kernel_rfl)
   have hb6_ := hall 6 (by kernel_rfl)
   have hb8_ := hall 8 (by kernel_rfl)
   have hb9_ := hall 9 (by kernel_rfl)
   have hb11_ := hall 11 (by kernel_rfl)
   have hb12_ := hall 12 (by kernel_rfl)
   have hb13_ := hall 13 (by kernel_rfl)
   have hb14_ := hall 14 (by kernel_rfl)
   have hb15_ := hall 15 (by kernel_rfl)
   have hb16_ := hall 16 (by kernel_rfl)
   have hb17_ := hall 17 (by kernel_rfl)
   have hb18_ := hall 18 (by kernel_rfl)
   subst ha
   obtain rfl := Q_X16_ hb16_
   obtain rfl := Q_X17_ hb17_
   simp only [putSel, hb1_, hb3_, hb5_, hb6_, hb8_, hb9_, hb11_, hb12_, hb13_, hb14_, hb15_, hb16_, hb17_, hb18_, if_true, Act.put, List.setIfInBounds_toArray, List.set_cons_zero, List.set_cons_succ]
   have BK142 := Aside0.mk Q_BK142
   clear Q_BK142
   have BK143 := Aside0.mk Q_BK143
   clear Q_BK143
   have BK144 := Aside0.mk Q_BK144
   clear Q_BK144
   have HB := Aside0.mk Q_HB
   clear Q_HB
   have HO148 := Aside0.mk (Kd.R_flat (ok' := fun k_ => some k_ ≠ v150.ownBlock) (fun h_ => h_) (Q_HO148 hb6_) (fun k hk _ => atom_of (Q_SEP hb6_ hb9_) hk))
   have HO151 := Aside0.mk (Kd.R_flat (ok' := fun k_ => some k_ ≠ v147.ownBlock) (fun h_ => h_) (Q_HO151 hb9_) (fun k hk _ => atom_of' (Q_SEP hb6_ hb9_) hk))
   clear Q_HO154
   clear Q_HO157
   have HO160 := Aside0.mk (Q_HO160 hb15_)
   clear Q_HO160
   clear Q_BK161
   have GW161 := Aside0.mk (Q_GW161 hb17_)
   clear Q_GW161
   have GE161 := Aside0.mk (Q_GE161 hb17_)
   clear Q_GE161
   have NB142_161 := Aside0.mk (Q_NB142_161 hb17_)
   clear Q_NB142_161
   have NB161_142 := Aside0.mk (Q_NB161_142 hb17_)
   clear Q_NB161_142
   have NB143_161 := Aside0.mk (Q_NB143_161 hb17_)
   clear Q_NB143_161
   have NB161_143 := Aside0.mk (Q_NB161_143 hb17_)
   clear Q_NB161_143
   have NB144_161 := Aside0.mk (Q_NB144_161 hb17_)
   clear Q_NB144_161
   have NB161_144 := Aside0.mk (Q_NB161_144 hb17_)
   clear Q_NB161_144
   have BK161 := Aside0.mk (Q_BK161_e18 hb18_)
   clear Q_BK161_e18
   clear hall hb1_ hb3_ hb5_ hb6_ hb8_ hb9_ hb11_ hb12_ hb13_ hb14_ hb15_ hb16_ hb17_ hb18_
   obtain ⟨Ao37, co37, eo37⟩ := Kd.R_slice HO160.out
   (first | subst eo37 | (injection eo37 with f1_ f2_ f3_; have f4_ := f1_.symm; have f5_ := f3_.symm; clear f1_ f2_ f3_; subst f4_; subst f5_))
   obtain ⟨Ao38, co38, eo38⟩ := Kd.R_slice HO151.out
   (first | subst eo38 | (injection eo38 with f1_ f2_ f3_; have f4_ := f1_.symm; have f5_ := f3_.symm; clear f1_ f2_ f3_; subst f4_; subst f5_))
   obtain ⟨Ao39, co39, eo39⟩ := Kd.R_slice HO148.out
   (first | subst eo39 | (injection eo39 with f1_ f2_ f3_; have f4_ := f1_.symm; have f5_ := f3_.symm; clear f1_ f2_ f3_; subst f4_; subst f5_))
   have hnb40 := NB143_161.out
   have hnc40 := NB161_143.out
   have hcz41_0 : w36.cell? ⟨gb143, 0, none⟩ = some (.int .i64 a1_0) := (blk_cell BK143.out 0).trans rfl
   have hcz41_1 : w36.cell? ⟨gb143, 1, none⟩ = some (.int .i64 a1_1) := (blk_cell BK143.out 1).trans rfl
   have hcz41_2 : w36.cell? ⟨gb143, 2, none⟩ = some (.int .i64 a1_2) := (blk_cell BK143.out 2).trans rfl
   have hcz41_3 : w36.cell? ⟨gb143, 3, none⟩ = some (.int .i64 a1_3) := (blk_cell BK143.out 3).trans rfl
   have hfz41_0 := blk_frozen BK143.out 0
   have hfz41_1 := blk_frozen BK143.out 1
   have hfz41_2 := blk_frozen BK143.out 2
   have hfz41_3 := blk_frozen BK143.out 3
   go_upto_region 6 with (fail)
   go_cut [34] (fun v34 wc => ∃ (kq : Nat) (x34_8 : Bool), v34 = .bool x34_8 ∧ Aside0 (review_Apply.j0 kq a1_0 x34_8 a1_0 a1_1 a1_2 a1_3 a0_0 a0_1 t146 t149 y158 = some (r1, r2, r3, r4, r5, r6)) ∧ Aside0 (kq ≤ k) ∧ Aside0 (Kd.R (Kd.int .i64) 3 wc w.heap.size (fun k_ => some k_ ≠ ((.slice Ao38 t149.length co38) : Value).ownBlock) (.slice Ao39 t146.length co39) t146) ∧ Aside0 (Kd.R (Kd.int .i64) 3 wc w.heap.size (fun k_ => some k_ ≠ ((.slice Ao39 t146.length co39) : Value).ownBlock) (.slice Ao38 t149.length co38) t149) ∧ Aside0 (Kd.R k34 34 wc w.heap.size (fun k_ => k_ ≠ gb143) (.slice Ao37 y158.length co37) y158) ∧ Aside0 (wc.heap[gb142]? = some (.cells #[.int .i64 a0_0, .int .i64 a0_1, (.slice A0_2 l0_2.length c0_2), (.slice A0_3 l0_3.length c0_3), (.slice A0_4 l0_4.length c0_4)] 25 (0, 0))) ∧ Aside0 (wc.heap[gb143]? = some (.cells #[.int .i64 a1_0, .int .i64 a1_1, .int .i64 a1_2, .int .i64 a1_3] 34 (0, 0))) ∧ Aside0 (wc.heap[gb144]? = some (.cells #[.int .i64 0, .int .i64 0, (.slice none 0 0), (.slice none 0 0), (.slice none 0 0)] 25 (0, 0))) ∧ Aside0 (wc.heap[gb161]? = some (.cells #[.int .i64 a0_0, .int .i64 a0_1, (.slice Ao39 t146.length co39), (.slice Ao38 t149.length co38), (.slice Ao37 y158.length co37)] 25 (0, 0))) ∧ Aside0 (Below w.heap.size w wc))
   case first =>
    have H := HC9.out
    clear HC9
    have H' := Aside0.mk H
    clear H
    go_wp2
    go_meet
    case rel => exact ⟨_, ((a1_0 == 1)), (by first | rfl | (simp; done) | (simp [*]; done)), H', ⟨by first | omega | exact Nat.le_refl _⟩, ⟨by (with_reducible repeat (first | apply Kd.R_alloc | apply Kd.R_drewN | apply Kd.R_drew)); exact HO148.out⟩, ⟨by (with_reducible repeat (first | apply Kd.R_alloc | apply Kd.R_drewN | apply Kd.R_drew)); exact HO151.out⟩, ⟨by (with_reducible repeat (first | apply Kd.R_alloc | apply Kd.R_drewN | apply Kd.R_drew)); exact HO160.out⟩, ⟨by (with_reducible repeat (first | refine blk_drewN ?_ _ | refine blk_drew ?_ | refine blk_alloc ?_ _)); exact BK142.out⟩, ⟨by (with_reducible repeat (first | refine blk_drewN ?_ _ | refine blk_drew ?_ | refine blk_alloc ?_ _)); exact BK143.out⟩, ⟨by (with_reducible repeat (first | refine blk_drewN ?_ _ | refine blk_drew ?_ | refine blk_alloc ?_ _)); exact BK144.out⟩, ⟨by (with_reducible repeat (first | refine blk_drewN ?_ _ | refine blk_drew ?_ | refine blk_alloc ?_ _)); exact BK161.out⟩, ⟨by repeat (first | (with_reducible first | exact HB.out | apply below_alloc | apply pw_below_drewN | apply below_drew1 | refine below_set ?_ GE142.out | refine below_set ?_ GE143.out | refine below_set ?_ GE144.out | refine below_set ?_ GE161.out) | exact HB.out)⟩⟩
   case rest =>
    clear HC9
    (try clear c1); (try clear c2); (try clear p2); (try clear c3); (try clear c4); (try clear c8); (try clear c20); (try clear c21); (try clear c40); (try clear hcz41_0); (try clear hcz41_1); (try clear hcz41_2); (try clear hcz41_3); (try clear hfz41_0); (try clear hfz41_1); (try clear hfz41_2); (try clear hfz41_3)
    obtain ⟨kq, x34_8, rfl, HA, HJ8, HO_162002, HO_162003, HO_162004, BK142, BK143, BK144, BK161, HB⟩ := hcut
    cases kq with
    | zero => exact absurd HA.out (by simp [review_Apply.j0])
    | succ kj8 =>
     have H := HA.out
     clear HA
     simp only [review_Apply.j0] at H
     by_cases c42 : x34_8 = true
     ·
      subst c42
      have H1 : (some (2, a0_1, t146, t149, y158, 0)) = some (r1, r2, r3, r4, r5, r6) := by rw [if_pos rfl] at H; exact H
      clear H
      have H := H1
      clear H1
      simp only [Option.some.injEq, Prod.mk.injEq] at H
      obtain ⟨rfl, rfl, rfl, rfl, rfl, rfl⟩ := H
      have hnb43 := NB161_142.out
      have hnc43 := NB142_161.out
      have hnb44 := NB161_143.out
      have hnc44 := NB143_161.out
      have hnb45 := NB161_144.out
      have hnc45 := NB144_161.out
      have hcz46_0 : wc.cell? ⟨gb161, 0, none⟩ = some (.int .i64 a0_0) := (blk_cell BK161.out 0).trans rfl
      have hcz46_1 : wc.cell? ⟨gb161, 1, none⟩ = some (.int .i64 a0_1) := (blk_cell BK161.out 1).trans rfl
      have hcz46_2 : wc.cell? ⟨gb161, 2, none⟩ = some (.slice Ao39 t146.length co39) := (blk_cell BK161.out 2).trans rfl
      have hcz46_3 : wc.cell? ⟨gb161, 3, none⟩ = some (.slice Ao38 t149.length co38) := (blk_cell BK161.out 3).trans rfl
      have hcz46_4 : wc.cell? ⟨gb161, 4, none⟩ = some (.slice Ao37 y158.length co37) := (blk_cell BK161.out 4).trans rfl
      have hfz46_0 := blk_frozen BK161.out 0
      have hfz46_1 := blk_frozen BK161.out 1
      have hfz46_2 := blk_frozen BK161.out 2
      have hfz46_3 := blk_frozen BK161.out 3
      have hfz46_4 := blk_frozen BK161.out 4
      have hnb47 := NB144_142.out
      have hnc47 := NB142_144.out
      have hnb48 := NB144_143.out
      have hnc48 := NB143_144.out
      have hcz49_0 : wc.cell? ⟨gb144, 0, none⟩ = some (.int .i64 0) := (blk_cell BK144.out 0).trans rfl
      have hcz49_1 : wc.cell? ⟨gb144, 1, none⟩ = some (.int .i64 0) := (blk_cell BK144.out 1).trans rfl
      have hcz49_2 : wc.cell? ⟨gb144, 2, none⟩ = some (.slice none 0 0) := (blk_cell BK144.out 2).trans rfl
      have hcz49_3 : wc.cell? ⟨gb144, 3, none⟩ = some (.slice none 0 0) := (blk_cell BK144.out 3).trans rfl
      have hcz49_4 : wc.cell? ⟨gb144, 4, none⟩ = some (.slice none 0 0) := (blk_cell BK144.out 4).trans rfl
      have hfz49_0 := blk_frozen BK144.out 0
      have hfz49_1 := blk_frozen BK144.out 1
      have hfz49_2 := blk_frozen BK144.out 2
      have hfz49_3 := blk_frozen BK144.out 3
      have hfz49_4 := blk_frozen BK144.out 4
      go_wp2
      refine bodyPost_ret (results_ct rfl _ _ gb144 25 #[.int .i64 2, .int .i64 a0_1, .slice Ao39 t146.length co39, .slice Ao38 t149.length co38, .slice Ao37 y158.length co37] (0, 0) _ rfl (by (with_reducible repeat (first | refine blk_drewN ?_ _ | refine blk_drew ?_ | refine blk_alloc ?_ _)); refine blk_put (cs := #[.int .i64 2, .int .i64 a0_1, .slice Ao39 t146.length co39, .slice Ao38 t149.length co38, .slice none 0 0]) ?_ 4 _ rfl; (with_reducible repeat (first | refine blk_drewN ?_ _ | refine blk_drew ?_ | refine blk_alloc ?_ _)); refine blk_put (cs := #[.int .i64 2, .int .i64 a0_1, .slice Ao39 t146.length co39, .slice none 0 0, .slice none 0 0]) ?_ 3 _ rfl; (with_reducible repeat (first | refine blk_drewN ?_ _ | refine blk_drew ?_ | refine blk_alloc ?_ _)); refine blk_put (cs := #[.int .i64 2, .int .i64 a0_1, .slice none 0 0, .slice none 0 0, .slice none 0 0]) ?_ 2 _ rfl; (with_reducible repeat (first | refine blk_drewN ?_ _ | refine blk_drew ?_ | refine blk_alloc ?_ _)); refine blk_put (cs := #[.int .i64 2, .int .i64 0, .slice none 0 0, .slice none 0 0, .slice none 0 0]) ?_ 1 _ rfl; (with_reducible repeat (first | refine blk_drewN ?_ _ | refine blk_drew ?_ | refine blk_alloc ?_ _)); refine blk_put (cs := #[.int .i64 0, .int .i64 0, .slice none 0 0, .slice none 0 0, .slice none 0 0]) ?_ 0 _ rfl; (with_reducible repeat (first | refine blk_drewN ?_ _ | refine blk_drew ?_ | refine blk_alloc ?_ _)); refine blk_far ?_ NB144_161.out _; (with_reducible repeat (first | refine blk_drewN ?_ _ | refine blk_drew ?_ | refine blk_alloc ?_ _)); exact BK144.out) Try.underlying25 rfl (by kernel_rfl)) rfl ?_
      exact ⟨_, _, _, by first | rfl | (simp [errW_none, errW_some] <;> rfl) | (simp [*, errW_none, errW_some] <;> rfl), by (with_reducible repeat (first | apply Kd.R_alloc | apply Kd.R_drewN | apply Kd.R_drew)); exact Kd.R_mono (Kd.R_far (p := ⟨gb144, 4, none⟩) (Kd.R_far (p := ⟨gb144, 3, none⟩) (Kd.R_far (p := ⟨gb144, 2, none⟩) (Kd.R_far (p := ⟨gb144, 1, none⟩) (Kd.R_far (p := ⟨gb144, 0, none⟩) (Kd.R_far (p := ⟨gb161, 0, none⟩) (Kd.R_types (Kd.R_types HO_162002.out BK161.out (by decide)) BK144.out (by decide)) (fun _ hk => hk.1.2) (.int .i64 2)) (fun _ hk => hk.2) (.int .i64 2)) (fun _ hk => hk.2) (.int .i64 a0_1)) (fun _ hk => hk.2) (.slice Ao39 t146.length co39)) (fun _ hk => hk.2) (.slice Ao38 t149.length co38)) (fun _ hk => hk.2) (.slice Ao37 y158.length co37)) (fun _ hk => hk.1.1), by (with_reducible repeat (first | apply Kd.R_alloc | apply Kd.R_drewN | apply Kd.R_drew)); exact Kd.R_mono (Kd.R_far (p := ⟨gb144, 4, none⟩) (Kd.R_far (p := ⟨gb144, 3, none⟩) (Kd.R_far (p := ⟨gb144, 2, none⟩) (Kd.R_far (p := ⟨gb144, 1, none⟩) (Kd.R_far (p := ⟨gb144, 0, none⟩) (Kd.R_far (p := ⟨gb161, 0, none⟩) (Kd.R_types (Kd.R_types HO_162003.out BK161.out (by decide)) BK144.out (by decide)) (fun _ hk => hk.1.2) (.int .i64 2)) (fun _ hk => hk.2) (.int .i64 2)) (fun _ hk => hk.2) (.int .i64 a0_1)) (fun _ hk => hk.2) (.slice Ao39 t146.length co39)) (fun _ hk => hk.2) (.slice Ao38 t149.length co38)) (fun _ hk => hk.2) (.slice Ao37 y158.length co37)) (fun _ hk => hk.1.1), by (with_reducible repeat (first | apply Kd.R_alloc | apply Kd.R_drewN | apply Kd.R_drew)); exact Kd.R_mono (Kd.R_far (p := ⟨gb144, 4, none⟩) (Kd.R_far (p := ⟨gb144, 3, none⟩) (Kd.R_far (p := ⟨gb144, 2, none⟩) (Kd.R_far (p := ⟨gb144, 1, none⟩) (Kd.R_far (p := ⟨gb144, 0, none⟩) (Kd.R_far (p := ⟨gb161, 0, none⟩) (Kd.R_types (Kd.R_types HO_162004.out BK161.out (by decide)) BK144.out (by decide)) (fun _ hk => hk.1.2) (.int .i64 2)) (fun _ hk => hk.2) (.int .i64 2)) (fun _ hk => hk.2) (.int .i64 a0_1)) (fun _ hk => hk.2) (.slice Ao39 t146.length co39)) (fun _ hk => hk.2) (.slice Ao38 t149.length co38)) (fun _ hk => hk.2) (.slice Ao37 y158.length co37)) (fun _ hk => trivial), by repeat (first | (with_reducible first | exact HB.out | apply below_alloc | apply pw_below_drewN | apply below_drew1 | refine below_set ?_ GE142.out | refine below_set ?_ GE143.out | refine below_set ?_ GE144.out | refine below_set ?_ GE161.out) | exact HB.out)⟩
     ·
      replace c42 := Bool.eq_false_iff.mpr c42
      subst c42
      have H1 : (if a1_0 = 2 then ((some (([a1_1] : List Int) : List Int)).bind fun y162 => (if t146.length + y162.length < 17592186044416 then ((some (t146 ++ y162 : List Int)).bind fun y165 => (if (y165.length : Int) ≥ 2 then (some (3, a0_1, y165, t149, y158, 0)) else (some (a0_0, a0_1, y165, t149, y158, 0)))) else (none))) else (if a1_0 = 3 then (review_Apply.j1 kj8 a1_0 (a1_0 == 3) a1_0 a1_1 a1_2 a1_3 a0_0 a0_1 t146 t149 y158) else (review_Apply.j1 kj8 a1_0 (a1_0 == 9) a1_0 a1_1 a1_2 a1_3 a0_0 a0_1 t146 t149 y158))) = some (r1, r2, r3, r4, r5, r6) := by rw [if_neg (show ¬ (false = true) by decide)] at H; exact H
      clear H
      have H := H1
      clear H1
      by_cases c50 : a1_0 = 2
      ·
       rw [if_pos c50] at H
       have c50b0 : (a1_0 == 2) = true := beq_iff_eq.mpr c50
       have c50b1 : (a1_0 != 2) = false := bne_eq_false_iff_eq.mpr c50
       clear c50
       obtain ⟨y162, hy162⟩ : ∃ y_ : List Int, y_ = (([a1_1] : List Int)) := ⟨_, rfl⟩
       replace H : (if t146.length + y162.length < 17592186044416 then ((some (t146 ++ y162 : List Int)).bind fun y165 => (if (y165.length : Int) ≥ 2 then (some (3, a0_1, y165, t149, y158, 0)) else (some (a0_0, a0_1, y165, t149, y158, 0)))) else (none)) = some (r1, r2, r3, r4, r5, r6) := by first | (rw [hy162]; with_reducible exact H) | (have H2_ := (Option.bind_some _ _).symm.trans H; rw [hy162]; with_reducible exact H2_) | (have H2_ := (Option.bind_some _ _).symm.trans H; with_reducible exact H2_) | with_reducible exact H | (rw [hy162]; exact H) | exact H
       have Ny162 := Aside0.mk hy162
       clear hy162
       by_cases c51 : t146.length + y162.length < 17592186044416
       ·
        rw [if_pos c51] at H
        have LMc51 := Aside0.mk c51
        clear c51
        obtain ⟨y165, hy165⟩ : ∃ y_ : List Int, y_ = (t146 ++ y162) := ⟨_, rfl⟩
        replace H : (if (y165.length : Int) ≥ 2 then (some (3, a0_1, y165, t149, y158, 0)) else (some (a0_0, a0_1, y165, t149, y158, 0))) = some (r1, r2, r3, r4, r5, r6) := by first | (rw [hy165]; with_reducible exact H) | (have H2_ := (Option.bind_some _ _).symm.trans H; rw [hy165]; with_reducible exact H2_) | (have H2_ := (Option.bind_some _ _).symm.trans H; with_reducible exact H2_) | with_reducible exact H | (rw [hy165]; exact H) | exact H
        have Ny165 := Aside0.mk hy165
        clear hy165
        by_cases c52 : (y165.length : Int) ≥ 2
        ·
         rw [if_pos c52] at H
         have c52b0 : decide (2 ≤ (y165.length : Int)) = true := decide_eq_true c52
         have c52b1 : decide (2 ≤ y165.length) = true := decide_eq_true (by omega)
         clear c52
         simp only [Option.some.injEq, Prod.mk.injEq] at H
         obtain ⟨rfl, rfl, rfl, rfl, rfl, rfl⟩ := H
         have hnb53 := NB161_142.out
         have hnc53 := NB142_161.out
         have hnb54 := NB161_143.out
         have hnc54 := NB143_161.out
         have hnb55 := NB161_144.out
         have hnc55 := NB144_161.out
         have hcz56_0 : wc.cell? ⟨gb161, 0, none⟩ = some (.int .i64 a0_0) := (blk_cell BK161.out 0).trans rfl
         have hcz56_1 : wc.cell? ⟨gb161, 1, none⟩ = some (.int .i64 a0_1) := (blk_cell BK161.out 1).trans rfl
         have hcz56_2 : wc.cell? ⟨gb161, 2, none⟩ = some (.slice Ao39 t146.length co39) := (blk_cell BK161.out 2).trans rfl
         have hcz56_3 : wc.cell? ⟨gb161, 3, none⟩ = some (.slice Ao38 t149.length co38) := (blk_cell BK161.out 3).trans rfl
         have hcz56_4 : wc.cell? ⟨gb161, 4, none⟩ = some (.slice Ao37 y158.length co37) := (blk_cell BK161.out 4).trans rfl
         have hfz56_0 := blk_frozen BK161.out 0
         have hfz56_1 := blk_frozen BK161.out 1
         have hfz56_2 := blk_frozen BK161.out 2
         have hfz56_3 := blk_frozen BK161.out 3
         have hfz56_4 := blk_frozen BK161.out 4
         have hnb57 := NB143_142.out
         have hnc57 := NB142_143.out
         have hnb58 := NB143_144.out
         have hnc58 := NB144_143.out
         have hcz59_0 : wc.cell? ⟨gb143, 0, none⟩ = some (.int .i64 a1_0) := (blk_cell BK143.out 0).trans rfl
         have hcz59_1 : wc.cell? ⟨gb143, 1, none⟩ = some (.int .i64 a1_1) := (blk_cell BK143.out 1).trans rfl
         have hcz59_2 : wc.cell? ⟨gb143, 2, none⟩ = some (.int .i64 a1_2) := (blk_cell BK143.out 2).trans rfl
         have hcz59_3 : wc.cell? ⟨gb143, 3, none⟩ = some (.int .i64 a1_3) := (blk_cell BK143.out 3).trans rfl
         have hfz59_0 := blk_frozen BK143.out 0
         have hfz59_1 := blk_frozen BK143.out 1
         have hfz59_2 := blk_frozen BK143.out 2
         have hfz59_3 := blk_frozen BK143.out 3
         go_wp2_with (first | ((with_reducible refine gate_dst (N := 43) rfl ?_); refine Kd.R_lit (Kd.int .i64) _ 3 ?hg (N := 43) ?hd (xs := ([a1_1] : List Int)) (inner := [.int .i64 a1_1]) (ok := fun _ => True) (okp := fun _ => True) ?hr ?hp (fun _ hk => hk) trivial (Below.refl _ _) (Nat.le_refl _) (by simp) ?_; (case hd => rfl); (case hg => rfl); (case hr => first | (go_simp; done) | (go_simp; rfl)); (case hp => exact (Reps.one (show Kd.M (Kd.int .i64) _ _ _ a1_1 [.int .i64 a1_1] from rfl) (Reps.none _ _))); intro v163 w60 ho61 hb hg_ hnew_; clear hg_ hnew_; (first | rw [← Ny162.out] at ho61 | (simp only [Int.reduceToNat] at ho61; rw [← Ny162.out] at ho61)); have n0_ := Aside0.mk (Kd.R_elder' (by (with_reducible repeat (first | apply Kd.R_alloc | apply Kd.R_drewN | apply Kd.R_drew)); exact HO_162002.out) (Kd.R_base ho61) hb); have n1_ := Aside0.mk (Kd.R_elder' (by (with_reducible repeat (first | apply Kd.R_alloc | apply Kd.R_drewN | apply Kd.R_drew)); exact HO_162003.out) (Kd.R_base ho61) hb); have n2_ := Aside0.mk (Kd.R_below (by (with_reducible repeat (first | apply Kd.R_alloc | apply Kd.R_drewN | apply Kd.R_drew)); exact HO_162004.out) hb); have n3_ := Aside0.mk (Kd.R_lower (Kd.R_new' (Kd.R_new' ho61 (Kd.R_lt (by (with_reducible repeat (first | apply Kd.R_alloc | apply Kd.R_drewN | apply Kd.R_drew)); exact HO_162002.out))) (Kd.R_lt (by (with_reducible repeat (first | apply Kd.R_alloc | apply Kd.R_drewN | apply Kd.R_drew)); exact HO_162003.out))) (below_size (by repeat (first | (with_reducible first | exact HB.out | apply below_alloc | apply pw_below_drewN | apply below_drew1 | refine below_set ?_ GE142.out | refine below_set ?_ GE143.out | refine below_set ?_ GE144.out | refine below_set ?_ GE161.out) | exact HB.out)))); have n4_ := Aside0.mk (blk_below (g := gb142) (o := .cells #[.int .i64 a0_0, .int .i64 a0_1, .slice A0_2 l0_2.length c0_2, .slice A0_3 l0_3.length c0_3, .slice A0_4 l0_4.length c0_4] 25 (0, 0)) (by (with_reducible repeat (first | refine blk_drewN ?_ _ | refine blk_drew ?_ | refine blk_alloc ?_ _)); exact BK142.out) hb); have n5_ := Aside0.mk (blk_below (g := gb143) (o := .cells #[.int .i64 a1_0, .int .i64 a1_1, .int .i64 a1_2, .int .i64 a1_3] 34 (0, 0)) (by (with_reducible repeat (first | refine blk_drewN ?_ _ | refine blk_drew ?_ | refine blk_alloc ?_ _)); exact BK143.out) hb); have n6_ := Aside0.mk (blk_below (g := gb144) (o := .cells #[.int .i64 0, .int .i64 0, .slice none 0 0, .slice none 0 0, .slice none 0 0] 25 (0, 0)) (by (with_reducible repeat (first | refine blk_drewN ?_ _ | refine blk_drew ?_ | refine blk_alloc ?_ _)); exact BK144.out) hb); have n7_ := Aside0.mk (blk_below (g := gb161) (o := .cells #[.int .i64 a0_0, .int .i64 a0_1, .slice Ao39 t146.length co39, .slice Ao38 t149.length co38, .slice Ao37 y158.length co37] 25 (0, 0)) (by (with_reducible repeat (first | refine blk_drewN ?_ _ | refine blk_drew ?_ | refine blk_alloc ?_ _)); exact BK161.out) hb); have n8_ := Aside0.mk (below_step (by repeat (first | (with_reducible first | exact HB.out | apply below_alloc | apply pw_below_drewN | apply below_drew1 | refine below_set ?_ GE142.out | refine below_set ?_ GE143.out | refine below_set ?_ GE144.out | refine below_set ?_ GE161.out) | exact HB.out)) hb); clear HO_162002; clear HO_162003; clear HO_162004; clear BK142; clear BK143; clear BK144; clear BK161; clear HB; have HO_162002 := n0_; have HO_162003 := n1_; have HO_162004 := n2_; have HO164 := n3_; have BK142 := n4_; have BK143 := n5_; have BK144 := n6_; have BK161 := n7_; have HB := n8_; clear n0_ n1_ n2_ n3_ n4_ n5_ n6_ n7_ n8_; clear hb ho61; obtain ⟨Ao63, co63, eo63⟩ := Kd.R_slice HO164.out; subst eo63) | ((with_reducible refine gate_builtin (b := .append) (xs := #[.tmp 40, .tmp 43]) rfl ?_); at_builtin; refine Kd.R_append_rows (Kd.int .i64) (w0 := w) w.heap.size rfl (.tmp 40) (.tmp 43) 22 3 (.int .i64 0) 8 rfl Try.underlying22 info3 rfl (by decide) (by omega) (.slice Ao39 t146.length co39) t146 y162 _ _ _ (fun k_ => some k_ ≠ (.slice Ao38 t149.length co38 : Value).ownBlock ∧ some k_ ≠ (.slice Ao63 y162.length co63 : Value).ownBlock) (fun _ => False) rfl rfl ?aO ?aR (fun _ _ h => h) (fun _ h => h.elim) ?aF ?aB ?aS ?aL ?_; (case aR => repeat (first | exact (Kd.R_reads' HO164.out).2.2 | (with_reducible refine Kd.C_alloc ?_ _) | (with_reducible refine Kd.C_drewN ?_ _) | (with_reducible refine Kd.C_drew ?_))); (case aB => exact (by repeat (first | (with_reducible first | exact HB.out | apply below_alloc | apply pw_below_drewN | apply below_drew1 | refine below_set ?_ GE142.out | refine below_set ?_ GE143.out | refine below_set ?_ GE144.out | refine below_set ?_ GE161.out) | exact HB.out))); (case aF => exact (fun k_ hk => ⟨Kd.fresh' (Kd.R_lt (by (with_reducible repeat (first | apply Kd.R_alloc | apply Kd.R_drewN | apply Kd.R_drew)); exact HO_162003.out)) k_ hk, Kd.fresh' (Kd.R_lt (by (with_reducible repeat (first | apply Kd.R_alloc | apply Kd.R_drewN | apply Kd.R_drew)); exact HO164.out)) k_ hk⟩)); (case aO => exact (by (with_reducible repeat (first | apply Kd.R_alloc | apply Kd.R_drewN | apply Kd.R_drew)); exact HO_162002.out)); (case aS => exact (below_size (by repeat (first | (with_reducible first | exact HB.out | apply below_alloc | apply pw_below_drewN | apply below_drew1 | refine below_set ?_ GE142.out | refine below_set ?_ GE143.out | refine below_set ?_ GE144.out | refine below_set ?_ GE161.out) | exact HB.out)))); (case aL => have := LMc51.out; omega); intro v166 w62 ho hb hg hat; rw [← Ny165.out] at ho; have n0_ := Aside0.mk (Kd.R_after (ok := (fun k_ => some k_ ≠ (.slice Ao63 y162.length co63 : Value).ownBlock)) (by (with_reducible repeat (first | apply Kd.R_alloc | apply Kd.R_drewN | apply Kd.R_drew)); exact Kd.R_mono HO_162003.out (fun _ hk => ⟨hk.2, hk.1⟩)) hg hat); have n1_ := Aside0.mk (Kd.R_over' (by (with_reducible repeat (first | apply Kd.R_alloc | apply Kd.R_drewN | apply Kd.R_drew)); exact HO_162004.out) (Kd.R_typed (by (with_reducible repeat (first | apply Kd.R_alloc | apply Kd.R_drewN | apply Kd.R_drew)); exact HO_162002.out)) (by decide) hg); have n2_ := Aside0.mk (blk_grown (g := gb142) (o := .cells #[.int .i64 a0_0, .int .i64 a0_1, .slice A0_2 l0_2.length c0_2, .slice A0_3 l0_3.length c0_3, .slice A0_4 l0_4.length c0_4] 25 (0, 0)) (by (with_reducible repeat (first | refine blk_drewN ?_ _ | refine blk_drew ?_ | refine blk_alloc ?_ _)); exact BK142.out) hg (Kd.R_ne HO_162002.out BK142.out (by decide))); have n3_ := Aside0.mk (blk_grown (g := gb143) (o := .cells #[.int .i64 a1_0, .int .i64 a1_1, .int .i64 a1_2, .int .i64 a1_3] 34 (0, 0)) (by (with_reducible repeat (first | refine blk_drewN ?_ _ | refine blk_drew ?_ | refine blk_alloc ?_ _)); exact BK143.out) hg (Kd.R_ne HO_162002.out BK143.out (by decide))); have n4_ := Aside0.mk (blk_grown (g := gb144) (o := .cells #[.int .i64 0, .int .i64 0, .slice none 0 0, .slice none 0 0, .slice none 0 0] 25 (0, 0)) (by (with_reducible repeat (first | refine blk_drewN ?_ _ | refine blk_drew ?_ | refine blk_alloc ?_ _)); exact BK144.out) hg (Kd.R_ne HO_162002.out BK144.out (by decide))); have n5_ := Aside0.mk (blk_grown (g := gb161) (o := .cells #[.int .i64 a0_0, .int .i64 a0_1, .slice Ao39 t146.length co39, .slice Ao38 t149.length co38, .slice Ao37 y158.length co37] 25 (0, 0)) (by (with_reducible repeat (first | refine blk_drewN ?_ _ | refine blk_drew ?_ | refine blk_alloc ?_ _)); exact BK161.out) hg (Kd.R_ne HO_162002.out BK161.out (by decide))); have n6_ := Aside0.mk (Kd.R_after (ok := (fun k_ => some k_ ≠ (.slice Ao38 t149.length co38 : Value).ownBlock)) (by (with_reducible repeat (first | apply Kd.R_alloc | apply Kd.R_drewN | apply Kd.R_drew)); exact Kd.R_mono HO164.out (fun _ hk => ⟨hk.2, hk.1.2⟩)) hg hat); have n7_ := Aside0.mk (hb); have n8_ := Aside0.mk (ho); clear HO_162003; clear HO_162004; clear BK142; clear BK143; clear BK144; clear BK161; clear HO164; clear HB; clear HO_162002; have HO_162003 := n0_; have HO_162004 := n1_; have BK142 := n2_; have BK143 := n3_; have BK144 := n4_; have BK161 := n5_; have HO164 := n6_; have HB := n7_; have HO167 := n8_; clear n0_ n1_ n2_ n3_ n4_ n5_ n6_ n7_ n8_; clear ho hb hg hat; obtain ⟨Ao64, co64, eo64⟩ := Kd.R_slice HO167.out; subst eo64; have hcz65_0 : w62.cell? ⟨gb161, 0, none⟩ = some (.int .i64 a0_0) := (blk_cell BK161.out 0).trans rfl; have hcz65_1 : w62.cell? ⟨gb161, 1, none⟩ = some (.int .i64 a0_1) := (blk_cell BK161.out 1).trans rfl; have hcz65_2 : w62.cell? ⟨gb161, 2, none⟩ = some (.slice Ao39 t146.length co39) := (blk_cell BK161.out 2).trans rfl; have hcz65_3 : w62.cell? ⟨gb161, 3, none⟩ = some (.slice Ao38 t149.length co38) := (blk_cell BK161.out 3).trans rfl; have hcz65_4 : w62.cell? ⟨gb161, 4, none⟩ = some (.slice Ao37 y158.length co37) := (blk_cell BK161.out 4).trans rfl; have hfz65_0 := blk_frozen BK161.out 0; have hfz65_1 := blk_frozen BK161.out 1; have hfz65_2 := blk_frozen BK161.out 2; have hfz65_3 := blk_frozen BK161.out 3; have hfz65_4 := blk_frozen BK161.out 4; have hnb66 := NB144_142.out; have hnc66 := NB142_144.out; have hcz67_0 : w62.cell? ⟨gb144, 0, none⟩ = some (.int .i64 0) := (blk_cell BK144.out 0).trans rfl; have hcz67_1 : w62.cell? ⟨gb144, 1, none⟩ = some (.int .i64 0) := (blk_cell BK144.out 1).trans rfl; have hcz67_2 : w62.cell? ⟨gb144, 2, none⟩ = some (.slice none 0 0) := (blk_cell BK144.out 2).trans rfl; have hcz67_3 : w62.cell? ⟨gb144, 3, none⟩ = some (.slice none 0 0) := (blk_cell BK144.out 3).trans rfl; have hcz67_4 : w62.cell? ⟨gb144, 4, none⟩ = some (.slice none 0 0) := (blk_cell BK144.out 4).trans rfl; have hfz67_0 := blk_frozen BK144.out 0; have hfz67_1 := blk_frozen BK144.out 1; have hfz67_2 := blk_frozen BK144.out 2; have hfz67_3 := blk_frozen BK144.out 3; have hfz67_4 := blk_frozen BK144.out 4))
         refine bodyPost_ret (results_ct rfl _ _ gb144 25 #[.int .i64 3, .int .i64 a0_1, .slice Ao64 y165.length co64, .slice Ao38 t149.length co38, .slice Ao37 y158.length co37] (0, 0) _ rfl (by (with_reducible repeat (first | refine blk_drewN ?_ _ | refine blk_drew ?_ | refine blk_alloc ?_ _)); refine blk_put (cs := #[.int .i64 3, .int .i64 a0_1, .slice Ao64 y165.length co64, .slice Ao38 t149.length co38, .slice none 0 0]) ?_ 4 _ rfl; (with_reducible repeat (first | refine blk_drewN ?_ _ | refine blk_drew ?_ | refine blk_alloc ?_ _)); refine blk_put (cs := #[.int .i64 3, .int .i64 a0_1, .slice Ao64 y165.length co64, .slice none 0 0, .slice none 0 0]) ?_ 3 _ rfl; (with_reducible repeat (first | refine blk_drewN ?_ _ | refine blk_drew ?_ | refine blk_alloc ?_ _)); refine blk_put (cs := #[.int .i64 3, .int .i64 a0_1, .slice none 0 0, .slice none 0 0, .slice none 0 0]) ?_ 2 _ rfl; (with_reducible repeat (first | refine blk_drewN ?_ _ | refine blk_drew ?_ | refine blk_alloc ?_ _)); refine blk_put (cs := #[.int .i64 3, .int .i64 0, .slice none 0 0, .slice none 0 0, .slice none 0 0]) ?_ 1 _ rfl; (with_reducible repeat (first | refine blk_drewN ?_ _ | refine blk_drew ?_ | refine blk_alloc ?_ _)); refine blk_put (cs := #[.int .i64 0, .int .i64 0, .slice none 0 0, .slice none 0 0, .slice none 0 0]) ?_ 0 _ rfl; (with_reducible repeat (first | refine blk_drewN ?_ _ | refine blk_drew ?_ | refine blk_alloc ?_ _)); refine blk_far ?_ NB144_161.out _; (with_reducible repeat (first | refine blk_drewN ?_ _ | refine blk_drew ?_ | refine blk_alloc ?_ _)); refine blk_far ?_ NB144_161.out _; (with_reducible repeat (first | refine blk_drewN ?_ _ | refine blk_drew ?_ | refine blk_alloc ?_ _)); exact BK144.out) Try.underlying25 rfl (by kernel_rfl)) rfl ?_
         exact ⟨_, _, _, by first | rfl | (simp [errW_none, errW_some] <;> rfl) | (simp [*, errW_none, errW_some] <;> rfl), by (with_reducible repeat (first | apply Kd.R_alloc | apply Kd.R_drewN | apply Kd.R_drew)); exact Kd.R_mono (Kd.R_far (p := ⟨gb144, 4, none⟩) (Kd.R_far (p := ⟨gb144, 3, none⟩) (Kd.R_far (p := ⟨gb144, 2, none⟩) (Kd.R_far (p := ⟨gb144, 1, none⟩) (Kd.R_far (p := ⟨gb144, 0, none⟩) (Kd.R_far (p := ⟨gb161, 0, none⟩) (Kd.R_far (p := ⟨gb161, 2, none⟩) (Kd.R_types (Kd.R_types HO167.out BK161.out (by decide)) BK144.out (by decide)) (fun _ hk => hk.1.2) (.slice Ao64 y165.length co64)) (fun _ hk => hk.1.2) (.int .i64 3)) (fun _ hk => hk.2) (.int .i64 3)) (fun _ hk => hk.2) (.int .i64 a0_1)) (fun _ hk => hk.2) (.slice Ao64 y165.length co64)) (fun _ hk => hk.2) (.slice Ao38 t149.length co38)) (fun _ hk => hk.2) (.slice Ao37 y158.length co37)) (fun _ hk => hk.1.1.1), by (with_reducible repeat (first | apply Kd.R_alloc | apply Kd.R_drewN | apply Kd.R_drew)); exact Kd.R_mono (Kd.R_far (p := ⟨gb144, 4, none⟩) (Kd.R_far (p := ⟨gb144, 3, none⟩) (Kd.R_far (p := ⟨gb144, 2, none⟩) (Kd.R_far (p := ⟨gb144, 1, none⟩) (Kd.R_far (p := ⟨gb144, 0, none⟩) (Kd.R_far (p := ⟨gb161, 0, none⟩) (Kd.R_far (p := ⟨gb161, 2, none⟩) (Kd.R_types (Kd.R_types HO_162003.out BK161.out (by decide)) BK144.out (by decide)) (fun _ hk => hk.1.2) (.slice Ao64 y165.length co64)) (fun _ hk => hk.1.2) (.int .i64 3)) (fun _ hk => hk.2) (.int .i64 3)) (fun _ hk => hk.2) (.int .i64 a0_1)) (fun _ hk => hk.2) (.slice Ao64 y165.length co64)) (fun _ hk => hk.2) (.slice Ao38 t149.length co38)) (fun _ hk => hk.2) (.slice Ao37 y158.length co37)) (fun _ hk => hk.1.1.2), by (with_reducible repeat (first | apply Kd.R_alloc | apply Kd.R_drewN | apply Kd.R_drew)); exact Kd.R_mono (Kd.R_far (p := ⟨gb144, 4, none⟩) (Kd.R_far (p := ⟨gb144, 3, none⟩) (Kd.R_far (p := ⟨gb144, 2, none⟩) (Kd.R_far (p := ⟨gb144, 1, none⟩) (Kd.R_far (p := ⟨gb144, 0, none⟩) (Kd.R_far (p := ⟨gb161, 0, none⟩) (Kd.R_far (p := ⟨gb161, 2, none⟩) (Kd.R_types (Kd.R_types HO_162004.out BK161.out (by decide)) BK144.out (by decide)) (fun _ hk => hk.1.2) (.slice Ao64 y165.length co64)) (fun _ hk => hk.1.2) (.int .i64 3)) (fun _ hk => hk.2) (.int .i64 3)) (fun _ hk => hk.2) (.int .i64 a0_1)) (fun _ hk => hk.2) (.slice Ao64 y165.length co64)) (fun _ hk => hk.2) (.slice Ao38 t149.length co38)) (fun _ hk => hk.2) (.slice Ao37 y158.length co37)) (fun _ hk => trivial), by repeat (first | (with_reducible first | exact HB.out | apply below_alloc | apply pw_below_drewN | apply below_drew1 | refine below_set ?_ GE142.out | refine below_set ?_ GE143.out | refine below_set ?_ GE144.out | refine below_set ?_ GE161.out) | exact HB.out)⟩
        ·
         rw [if_neg c52] at H
         have c52b0 : decide (2 ≤ (y165.length : Int)) = false := decide_eq_false c52
         have c52b1 : decide (2 ≤ y165.length) = false := decide_eq_false (by omega)
         clear c52
         simp only [Option.some.injEq, Prod.mk.injEq] at H
         obtain ⟨rfl, rfl, rfl, rfl, rfl, rfl⟩ := H
         have hnb68 := NB161_142.out
         have hnc68 := NB142_161.out
         have hnb69 := NB161_143.out
         have hnc69 := NB143_161.out
         have hnb70 := NB161_144.out
         have hnc70 := NB144_161.out
         have hcz71_0 : wc.cell? ⟨gb161, 0, none⟩ = some (.int .i64 a0_0) := (blk_cell BK161.out 0).trans rfl
         have hcz71_1 : wc.cell? ⟨gb161, 1, none⟩ = some (.int .i64 a0_1) := (blk_cell BK161.out 1).trans rfl
         have hcz71_2 : wc.cell? ⟨gb161, 2, none⟩ = some (.slice Ao39 t146.length co39) := (blk_cell BK161.out 2).trans rfl
         have hcz71_3 : wc.cell? ⟨gb161, 3, none⟩ = some (.slice Ao38 t149.length co38) := (blk_cell BK161.out 3).trans rfl
         have hcz71_4 : wc.cell? ⟨gb161, 4, none⟩ = some (.slice Ao37 y158.length co37) := (blk_cell BK161.out 4).trans rfl
         have hfz71_0 := blk_frozen BK161.out 0
         have hfz71_1 := blk_frozen BK161.out 1
         have hfz71_2 := blk_frozen BK161.out 2
         have hfz71_3 := blk_frozen BK161.out 3
         have hfz71_4 := blk_frozen BK161.out 4
         have hnb72 := NB143_142.out
         have hnc72 := NB142_143.out
         have hnb73 := NB143_144.out
         have hnc73 := NB144_143.out
         have hcz74_0 : wc.cell? ⟨gb143, 0, none⟩ = some (.int .i64 a1_0) := (blk_cell BK143.out 0).trans rfl
         have hcz74_1 : wc.cell? ⟨gb143, 1, none⟩ = some (.int .i64 a1_1) := (blk_cell BK143.out 1).trans rfl
         have hcz74_2 : wc.cell? ⟨gb143, 2, none⟩ = some (.int .i64 a1_2) := (blk_cell BK143.out 2).trans rfl
         have hcz74_3 : wc.cell? ⟨gb143, 3, none⟩ = some (.int .i64 a1_3) := (blk_cell BK143.out 3).trans rfl
         have hfz74_0 := blk_frozen BK143.out 0
         have hfz74_1 := blk_frozen BK143.out 1
         have hfz74_2 := blk_frozen BK143.out 2
         have hfz74_3 := blk_frozen BK143.out 3
         go_wp2_with (first | ((with_reducible refine gate_dst (N := 43) rfl ?_); refine Kd.R_lit (Kd.int .i64) _ 3 ?hg (N := 43) ?hd (xs := ([a1_1] : List Int)) (inner := [.int .i64 a1_1]) (ok := fun _ => True) (okp := fun _ => True) ?hr ?hp (fun _ hk => hk) trivial (Below.refl _ _) (Nat.le_refl _) (by simp) ?_; (case hd => rfl); (case hg => rfl); (case hr => first | (go_simp; done) | (go_simp; rfl)); (case hp => exact (Reps.one (show Kd.M (Kd.int .i64) _ _ _ a1_1 [.int .i64 a1_1] from rfl) (Reps.none _ _))); intro v163 w75 ho76 hb hg_ hnew_; clear hg_ hnew_; (first | rw [← Ny162.out] at ho76 | (simp only [Int.reduceToNat] at ho76; rw [← Ny162.out] at ho76)); have n0_ := Aside0.mk (Kd.R_elder' (by (with_reducible repeat (first | apply Kd.R_alloc | apply Kd.R_drewN | apply Kd.R_drew)); exact HO_162002.out) (Kd.R_base ho76) hb); have n1_ := Aside0.mk (Kd.R_elder' (by (with_reducible repeat (first | apply Kd.R_alloc | apply Kd.R_drewN | apply Kd.R_drew)); exact HO_162003.out) (Kd.R_base ho76) hb); have n2_ := Aside0.mk (Kd.R_below (by (with_reducible repeat (first | apply Kd.R_alloc | apply Kd.R_drewN | apply Kd.R_drew)); exact HO_162004.out) hb); have n3_ := Aside0.mk (Kd.R_lower (Kd.R_new' (Kd.R_new' ho76 (Kd.R_lt (by (with_reducible repeat (first | apply Kd.R_alloc | apply Kd.R_drewN | apply Kd.R_drew)); exact HO_162002.out))) (Kd.R_lt (by (with_reducible repeat (first | apply Kd.R_alloc | apply Kd.R_drewN | apply Kd.R_drew)); exact HO_162003.out))) (below_size (by repeat (first | (with_reducible first | exact HB.out | apply below_alloc | apply pw_below_drewN | apply below_drew1 | refine below_set ?_ GE142.out | refine below_set ?_ GE143.out | refine below_set ?_ GE144.out | refine below_set ?_ GE161.out) | exact HB.out)))); have n4_ := Aside0.mk (blk_below (g := gb142) (o := .cells #[.int .i64 a0_0, .int .i64 a0_1, .slice A0_2 l0_2.length c0_2, .slice A0_3 l0_3.length c0_3, .slice A0_4 l0_4.length c0_4] 25 (0, 0)) (by (with_reducible repeat (first | refine blk_drewN ?_ _ | refine blk_drew ?_ | refine blk_alloc ?_ _)); exact BK142.out) hb); have n5_ := Aside0.mk (blk_below (g := gb143) (o := .cells #[.int .i64 a1_0, .int .i64 a1_1, .int .i64 a1_2, .int .i64 a1_3] 34 (0, 0)) (by (with_reducible repeat (first | refine blk_drewN ?_ _ | refine blk_drew ?_ | refine blk_alloc ?_ _)); exact BK143.out) hb); have n6_ := Aside0.mk (blk_below (g := gb144) (o := .cells #[.int .i64 0, .int .i64 0, .slice none 0 0, .slice none 0 0, .slice none 0 0] 25 (0, 0)) (by (with_reducible repeat (first | refine blk_drewN ?_ _ | refine blk_drew ?_ | refine blk_alloc ?_ _)); exact BK144.out) hb); have n7_ := Aside0.mk (blk_below (g := gb161) (o := .cells #[.int .i64 a0_0, .int .i64 a0_1, .slice Ao39 t146.length co39, .slice Ao38 t149.length co38, .slice Ao37 y158.length co37] 25 (0, 0)) (by (with_reducible repeat (first | refine blk_drewN ?_ _ | refine blk_drew ?_ | refine blk_alloc ?_ _)); exact BK161.out) hb); have n8_ := Aside0.mk (below_step (by repeat (first | (with_reducible first | exact HB.out | apply below_alloc | apply pw_below_drewN | apply below_drew1 | refine below_set ?_ GE142.out | refine below_set ?_ GE143.out | refine below_set ?_ GE144.out | refine below_set ?_ GE161.out) | exact HB.out)) hb); clear HO_162002; clear HO_162003; clear HO_162004; clear BK142; clear BK143; clear BK144; clear BK161; clear HB; have HO_162002 := n0_; have HO_162003 := n1_; have HO_162004 := n2_; have HO164 := n3_; have BK142 := n4_; have BK143 := n5_; have BK144 := n6_; have BK161 := n7_; have HB := n8_; clear n0_ n1_ n2_ n3_ n4_ n5_ n6_ n7_ n8_; clear hb ho76; obtain ⟨Ao78, co78, eo78⟩ := Kd.R_slice HO164.out; subst eo78) | ((with_reducible refine gate_builtin (b := .append) (xs := #[.tmp 40, .tmp 43]) rfl ?_); at_builtin; refine Kd.R_append_rows (Kd.int .i64) (w0 := w) w.heap.size rfl (.tmp 40) (.tmp 43) 22 3 (.int .i64 0) 8 rfl Try.underlying22 info3 rfl (by decide) (by omega) (.slice Ao39 t146.length co39) t146 y162 _ _ _ (fun k_ => some k_ ≠ (.slice Ao38 t149.length co38 : Value).ownBlock ∧ some k_ ≠ (.slice Ao78 y162.length co78 : Value).ownBlock) (fun _ => False) rfl rfl ?aO ?aR (fun _ _ h => h) (fun _ h => h.elim) ?aF ?aB ?aS ?aL ?_; (case aR => repeat (first | exact (Kd.R_reads' HO164.out).2.2 | (with_reducible refine Kd.C_alloc ?_ _) | (with_reducible refine Kd.C_drewN ?_ _) | (with_reducible refine Kd.C_drew ?_))); (case aB => exact (by repeat (first | (with_reducible first | exact HB.out | apply below_alloc | apply pw_below_drewN | apply below_drew1 | refine below_set ?_ GE142.out | refine below_set ?_ GE143.out | refine below_set ?_ GE144.out | refine below_set ?_ GE161.out) | exact HB.out))); (case aF => exact (fun k_ hk => ⟨Kd.fresh' (Kd.R_lt (by (with_reducible repeat (first | apply Kd.R_alloc | apply Kd.R_drewN | apply Kd.R_drew)); exact HO_162003.out)) k_ hk, Kd.fresh' (Kd.R_lt (by (with_reducible repeat (first | apply Kd.R_alloc | apply Kd.R_drewN | apply Kd.R_drew)); exact HO164.out)) k_ hk⟩)); (case aO => exact (by (with_reducible repeat (first | apply Kd.R_alloc | apply Kd.R_drewN | apply Kd.R_drew)); exact HO_162002.out)); (case aS => exact (below_size (by repeat (first | (with_reducible first | exact HB.out | apply below_alloc | apply pw_below_drewN | apply below_drew1 | refine below_set ?_ GE142.out | refine below_set ?_ GE143.out | refine below_set ?_ GE144.out | refine below_set ?_ GE161.out) | exact HB.out)))); (case aL => have := LMc51.out; omega); intro v166 w77 ho hb hg hat; rw [← Ny165.out] at ho; have n0_ := Aside0.mk (Kd.R_after (ok := (fun k_ => some k_ ≠ (.slice Ao78 y162.length co78 : Value).ownBlock)) (by (with_reducible repeat (first | apply Kd.R_alloc | apply Kd.R_drewN | apply Kd.R_drew)); exact Kd.R_mono HO_162003.out (fun _ hk => ⟨hk.2, hk.1⟩)) hg hat); have n1_ := Aside0.mk (Kd.R_over' (by (with_reducible repeat (first | apply Kd.R_alloc | apply Kd.R_drewN | apply Kd.R_drew)); exact HO_162004.out) (Kd.R_typed (by (with_reducible repeat (first | apply Kd.R_alloc | apply Kd.R_drewN | apply Kd.R_drew)); exact HO_162002.out)) (by decide) hg); have n2_ := Aside0.mk (blk_grown (g := gb142) (o := .cells #[.int .i64 a0_0, .int .i64 a0_1, .slice A0_2 l0_2.length c0_2, .slice A0_3 l0_3.length c0_3, .slice A0_4 l0_4.length c0_4] 25 (0, 0)) (by (with_reducible repeat (first | refine blk_drewN ?_ _ | refine blk_drew ?_ | refine blk_alloc ?_ _)); exact BK142.out) hg (Kd.R_ne HO_162002.out BK142.out (by decide))); have n3_ := Aside0.mk (blk_grown (g := gb143) (o := .cells #[.int .i64 a1_0, .int .i64 a1_1, .int .i64 a1_2, .int .i64 a1_3] 34 (0, 0)) (by (with_reducible repeat (first | refine blk_drewN ?_ _ | refine blk_drew ?_ | refine blk_alloc ?_ _)); exact BK143.out) hg (Kd.R_ne HO_162002.out BK143.out (by decide))); have n4_ := Aside0.mk (blk_grown (g := gb144) (o := .cells #[.int .i64 0, .int .i64 0, .slice none 0 0, .slice none 0 0, .slice none 0 0] 25 (0, 0)) (by (with_reducible repeat (first | refine blk_drewN ?_ _ | refine blk_drew ?_ | refine blk_alloc ?_ _)); exact BK144.out) hg (Kd.R_ne HO_162002.out BK144.out (by decide))); have n5_ := Aside0.mk (blk_grown (g := gb161) (o := .cells #[.int .i64 a0_0, .int .i64 a0_1, .slice Ao39 t146.length co39, .slice Ao38 t149.length co38, .slice Ao37 y158.length co37] 25 (0, 0)) (by (with_reducible repeat (first | refine blk_drewN ?_ _ | refine blk_drew ?_ | refine blk_alloc ?_ _)); exact BK161.out) hg (Kd.R_ne HO_162002.out BK161.out (by decide))); have n6_ := Aside0.mk (Kd.R_after (ok := (fun k_ => some k_ ≠ (.slice Ao38 t149.length co38 : Value).ownBlock)) (by (with_reducible repeat (first | apply Kd.R_alloc | apply Kd.R_drewN | apply Kd.R_drew)); exact Kd.R_mono HO164.out (fun _ hk => ⟨hk.2, hk.1.2⟩)) hg hat); have n7_ := Aside0.mk (hb); have n8_ := Aside0.mk (ho); clear HO_162003; clear HO_162004; clear BK142; clear BK143; clear BK144; clear BK161; clear HO164; clear HB; clear HO_162002; have HO_162003 := n0_; have HO_162004 := n1_; have BK142 := n2_; have BK143 := n3_; have BK144 := n4_; have BK161 := n5_; have HO164 := n6_; have HB := n7_; have HO167 := n8_; clear n0_ n1_ n2_ n3_ n4_ n5_ n6_ n7_ n8_; clear ho hb hg hat; obtain ⟨Ao79, co79, eo79⟩ := Kd.R_slice HO167.out; subst eo79; have hcz80_0 : w77.cell? ⟨gb161, 0, none⟩ = some (.int .i64 a0_0) := (blk_cell BK161.out 0).trans rfl; have hcz80_1 : w77.cell? ⟨gb161, 1, none⟩ = some (.int .i64 a0_1) := (blk_cell BK161.out 1).trans rfl; have hcz80_2 : w77.cell? ⟨gb161, 2, none⟩ = some (.slice Ao39 t146.length co39) := (blk_cell BK161.out 2).trans rfl; have hcz80_3 : w77.cell? ⟨gb161, 3, none⟩ = some (.slice Ao38 t149.length co38) := (blk_cell BK161.out 3).trans rfl; have hcz80_4 : w77.cell? ⟨gb161, 4, none⟩ = some (.slice Ao37 y158.length co37) := (blk_cell BK161.out 4).trans rfl; have hfz80_0 := blk_frozen BK161.out 0; have hfz80_1 := blk_frozen BK161.out 1; have hfz80_2 := blk_frozen BK161.out 2; have hfz80_3 := blk_frozen BK161.out 3; have hfz80_4 := blk_frozen BK161.out 4; have hnb81 := NB144_142.out; have hnc81 := NB142_144.out; have hcz82_0 : w77.cell? ⟨gb144, 0, none⟩ = some (.int .i64 0) := (blk_cell BK144.out 0).trans rfl; have hcz82_1 : w77.cell? ⟨gb144, 1, none⟩ = some (.int .i64 0) := (blk_cell BK144.out 1).trans rfl; have hcz82_2 : w77.cell? ⟨gb144, 2, none⟩ = some (.slice none 0 0) := (blk_cell BK144.out 2).trans rfl; have hcz82_3 : w77.cell? ⟨gb144, 3, none⟩ = some (.slice none 0 0) := (blk_cell BK144.out 3).trans rfl; have hcz82_4 : w77.cell? ⟨gb144, 4, none⟩ = some (.slice none 0 0) := (blk_cell BK144.out 4).trans rfl; have hfz82_0 := blk_frozen BK144.out 0; have hfz82_1 := blk_frozen BK144.out 1; have hfz82_2 := blk_frozen BK144.out 2; have hfz82_3 := blk_frozen BK144.out 3; have hfz82_4 := blk_frozen BK144.out 4))
         refine bodyPost_ret (results_ct rfl _ _ gb144 25 #[.int .i64 a0_0, .int .i64 a0_1, .slice Ao79 y165.length co79, .slice Ao38 t149.length co38, .slice Ao37 y158.length co37] (0, 0) _ rfl (by (with_reducible repeat (first | refine blk_drewN ?_ _ | refine blk_drew ?_ | refine blk_alloc ?_ _)); refine blk_put (cs := #[.int .i64 a0_0, .int .i64 a0_1, .slice Ao79 y165.length co79, .slice Ao38 t149.length co38, .slice none 0 0]) ?_ 4 _ rfl; (with_reducible repeat (first | refine blk_drewN ?_ _ | refine blk_drew ?_ | refine blk_alloc ?_ _)); refine blk_put (cs := #[.int .i64 a0_0, .int .i64 a0_1, .slice Ao79 y165.length co79, .slice none 0 0, .slice none 0 0]) ?_ 3 _ rfl; (with_reducible repeat (first | refine blk_drewN ?_ _ | refine blk_drew ?_ | refine blk_alloc ?_ _)); refine blk_put (cs := #[.int .i64 a0_0, .int .i64 a0_1, .slice none 0 0, .slice none 0 0, .slice none 0 0]) ?_ 2 _ rfl; (with_reducible repeat (first | refine blk_drewN ?_ _ | refine blk_drew ?_ | refine blk_alloc ?_ _)); refine blk_put (cs := #[.int .i64 a0_0, .int .i64 0, .slice none 0 0, .slice none 0 0, .slice none 0 0]) ?_ 1 _ rfl; (with_reducible repeat (first | refine blk_drewN ?_ _ | refine blk_drew ?_ | refine blk_alloc ?_ _)); refine blk_put (cs := #[.int .i64 0, .int .i64 0, .slice none 0 0, .slice none 0 0, .slice none 0 0]) ?_ 0 _ rfl; (with_reducible repeat (first | refine blk_drewN ?_ _ | refine blk_drew ?_ | refine blk_alloc ?_ _)); refine blk_far ?_ NB144_161.out _; (with_reducible repeat (first | refine blk_drewN ?_ _ | refine blk_drew ?_ | refine blk_alloc ?_ _)); exact BK144.out) Try.underlying25 rfl (by kernel_rfl)) rfl ?_
         exact ⟨_, _, _, by first | rfl | (simp [errW_none, errW_some] <;> rfl) | (simp [*, errW_none, errW_some] <;> rfl), by (with_reducible repeat (first | apply Kd.R_alloc | apply Kd.R_drewN | apply Kd.R_drew)); exact Kd.R_mono (Kd.R_far (p := ⟨gb144, 4, none⟩) (Kd.R_far (p := ⟨gb144, 3, none⟩) (Kd.R_far (p := ⟨gb144, 2, none⟩) (Kd.R_far (p := ⟨gb144, 1, none⟩) (Kd.R_far (p := ⟨gb144, 0, none⟩) (Kd.R_far (p := ⟨gb161, 2, none⟩) (Kd.R_types (Kd.R_types HO167.out BK161.out (by decide)) BK144.out (by decide)) (fun _ hk => hk.1.2) (.slice Ao79 y165.length co79)) (fun _ hk => hk.2) (.int .i64 a0_0)) (fun _ hk => hk.2) (.int .i64 a0_1)) (fun _ hk => hk.2) (.slice Ao79 y165.length co79)) (fun _ hk => hk.2) (.slice Ao38 t149.length co38)) (fun _ hk => hk.2) (.slice Ao37 y158.length co37)) (fun _ hk => hk.1.1.1), by (with_reducible repeat (first | apply Kd.R_alloc | apply Kd.R_drewN | apply Kd.R_drew)); exact Kd.R_mono (Kd.R_far (p := ⟨gb144, 4, none⟩) (Kd.R_far (p := ⟨gb144, 3, none⟩) (Kd.R_far (p := ⟨gb144, 2, none⟩) (Kd.R_far (p := ⟨gb144, 1, none⟩) (Kd.R_far (p := ⟨gb144, 0, none⟩) (Kd.R_far (p := ⟨gb161, 2, none⟩) (Kd.R_types (Kd.R_types HO_162003.out BK161.out (by decide)) BK144.out (by decide)) (fun _ hk => hk.1.2) (.slice Ao79 y165.length co79)) (fun _ hk => hk.2) (.int .i64 a0_0)) (fun _ hk => hk.2) (.int .i64 a0_1)) (fun _ hk => hk.2) (.slice Ao79 y165.length co79)) (fun _ hk => hk.2) (.slice Ao38 t149.length co38)) (fun _ hk => hk.2) (.slice Ao37 y158.length co37)) (fun _ hk => hk.1.1.2), by (with_reducible repeat (first | apply Kd.R_alloc | apply Kd.R_drewN | apply Kd.R_drew)); exact Kd.R_mono (Kd.R_far (p := ⟨gb144, 4, none⟩) (Kd.R_far (p := ⟨gb144, 3, none⟩) (Kd.R_far (p := ⟨gb144, 2, none⟩) (Kd.R_far (p := ⟨gb144, 1, none⟩) (Kd.R_far (p := ⟨gb144, 0, none⟩) (Kd.R_far (p := ⟨gb161, 2, none⟩) (Kd.R_types (Kd.R_types HO_162004.out BK161.out (by decide)) BK144.out (by decide)) (fun _ hk => hk.1.2) (.slice Ao79 y165.length co79)) (fun _ hk => hk.2) (.int .i64 a0_0)) (fun _ hk => hk.2) (.int .i64 a0_1)) (fun _ hk => hk.2) (.slice Ao79 y165.length co79)) (fun _ hk => hk.2) (.slice Ao38 t149.length co38)) (fun _ hk => hk.2) (.slice Ao37 y158.length co37)) (fun _ hk => trivial), by repeat (first | (with_reducible first | exact HB.out | apply below_alloc | apply pw_below_drewN | apply below_drew1 | refine below_set ?_ GE142.out | refine below_set ?_ GE143.out | refine below_set ?_ GE144.out | refine below_set ?_ GE161.out) | exact HB.out)⟩
       ·
        rw [if_neg c51] at H
        exact absurd H (by simp)
      ·
       rw [if_neg c50] at H
       have c50b0 : (a1_0 == 2) = false := beq_eq_false_iff_ne.mpr c50
       have c50b1 : (a1_0 != 2) = true := bne_iff_ne.mpr c50
       have HC83 := Aside0.mk H
       clear H
       go_upto_if 51 with (fail)
       go_cut [51] (fun v51 wc => ∃ (kq : Nat) (x51_82 : Bool), v51 = .bool x51_82 ∧ Aside0 (review_Apply.j1 kq a1_0 x51_82 a1_0 a1_1 a1_2 a1_3 a0_0 a0_1 t146 t149 y158 = some (r1, r2, r3, r4, r5, r6)) ∧ Aside0 (kq ≤ kj8) ∧ Aside0 (Kd.R (Kd.int .i64) 3 wc w.heap.size (fun k_ => some k_ ≠ ((.slice Ao38 t149.length co38) : Value).ownBlock) (.slice Ao39 t146.length co39) t146) ∧ Aside0 (Kd.R (Kd.int .i64) 3 wc w.heap.size (fun k_ => some k_ ≠ ((.slice Ao39 t146.length co39) : Value).ownBlock) (.slice Ao38 t149.length co38) t149) ∧ Aside0 (Kd.R k34 34 wc w.heap.size (fun k_ => k_ ≠ gb143) (.slice Ao37 y158.length co37) y158) ∧ Aside0 (wc.heap[gb142]? = some (.cells #[.int .i64 a0_0, .int .i64 a0_1, (.slice A0_2 l0_2.length c0_2), (.slice A0_3 l0_3.length c0_3), (.slice A0_4 l0_4.length c0_4)] 25 (0, 0))) ∧ Aside0 (wc.heap[gb143]? = some (.cells #[.int .i64 a1_0, .int .i64 a1_1, .int .i64 a1_2, .int .i64 a1_3] 34 (0, 0))) ∧ Aside0 (wc.heap[gb144]? = some (.cells #[.int .i64 0, .int .i64 0, (.slice none 0 0), (.slice none 0 0), (.slice none 0 0)] 25 (0, 0))) ∧ Aside0 (wc.heap[gb161]? = some (.cells #[.int .i64 a0_0, .int .i64 a0_1, (.slice Ao39 t146.length co39), (.slice Ao38 t149.length co38), (.slice Ao37 y158.length co37)] 25 (0, 0))) ∧ Aside0 (Below w.heap.size w wc))
       case first =>
        have H := HC83.out
        clear HC83
        by_cases c84 : a1_0 = 3
        ·
         rw [if_pos c84] at H
         have c84b0 : (a1_0 == 3) = true := beq_iff_eq.mpr c84
         have c84b1 : (a1_0 != 3) = false := bne_eq_false_iff_eq.mpr c84
         clear c84
         (first | rw [c84b0] | (simp only [i64_w, i32_w]; rw [c84b0]) | skip)
         have H' := Aside0.mk H
         clear H
         go_wp2
         go_meet
         case rel => exact ⟨_, ((a1_0 == 3)), (by first | rfl | (simp; done) | (simp [*]; done)), H', ⟨by have := HJ8.out; first | omega | exact Nat.le_refl _⟩, ⟨by (with_reducible repeat (first | apply Kd.R_alloc | apply Kd.R_drewN | apply Kd.R_drew)); exact HO_162002.out⟩, ⟨by (with_reducible repeat (first | apply Kd.R_alloc | apply Kd.R_drewN | apply Kd.R_drew)); exact HO_162003.out⟩, ⟨by (with_reducible repeat (first | apply Kd.R_alloc | apply Kd.R_drewN | apply Kd.R_drew)); exact HO_162004.out⟩, ⟨by (with_reducible repeat (first | refine blk_drewN ?_ _ | refine blk_drew ?_ | refine blk_alloc ?_ _)); exact BK142.out⟩, ⟨by (with_reducible repeat (first | refine blk_drewN ?_ _ | refine blk_drew ?_ | refine blk_alloc ?_ _)); exact BK143.out⟩, ⟨by (with_reducible repeat (first | refine blk_drewN ?_ _ | refine blk_drew ?_ | refine blk_alloc ?_ _)); exact BK144.out⟩, ⟨by (with_reducible repeat (first | refine blk_drewN ?_ _ | refine blk_drew ?_ | refine blk_alloc ?_ _)); exact BK161.out⟩, ⟨by repeat (first | (with_reducible first | exact HB.out | apply below_alloc | apply pw_below_drewN | apply below_drew1 | refine below_set ?_ GE142.out | refine below_set ?_ GE143.out | refine below_set ?_ GE144.out | refine below_set ?_ GE161.out) | exact HB.out)⟩⟩
        ·
         rw [if_neg c84] at H
         have c84b0 : (a1_0 == 3) = false := beq_eq_false_iff_ne.mpr c84
         have c84b1 : (a1_0 != 3) = true := bne_iff_ne.mpr c84
         (first | rw [c84b0] | (simp only [i64_w, i32_w]; rw [c84b0]) | skip)
         have H' := Aside0.mk H
         clear H
         go_wp2
         go_meet
         case rel => exact ⟨_, ((a1_0 == 9)), (by first | rfl | (simp; done) | (simp [*]; done)), H', ⟨by have := HJ8.out; first | omega | exact Nat.le_refl _⟩, ⟨by (with_reducible repeat (first | apply Kd.R_alloc | apply Kd.R_drewN | apply Kd.R_drew)); exact HO_162002.out⟩, ⟨by (with_reducible repeat (first | apply Kd.R_alloc | apply Kd.R_drewN | apply Kd.R_drew)); exact HO_162003.out⟩, ⟨by (with_reducible repeat (first | apply Kd.R_alloc | apply Kd.R_drewN | apply Kd.R_drew)); exact HO_162004.out⟩, ⟨by (with_reducible repeat (first | refine blk_drewN ?_ _ | refine blk_drew ?_ | refine blk_alloc ?_ _)); exact BK142.out⟩, ⟨by (with_reducible repeat (first | refine blk_drewN ?_ _ | refine blk_drew ?_ | refine blk_alloc ?_ _)); exact BK143.out⟩, ⟨by (with_reducible repeat (first | refine blk_drewN ?_ _ | refine blk_drew ?_ | refine blk_alloc ?_ _)); exact BK144.out⟩, ⟨by (with_reducible repeat (first | refine blk_drewN ?_ _ | refine blk_drew ?_ | refine blk_alloc ?_ _)); exact BK161.out⟩, ⟨by repeat (first | (with_reducible first | exact HB.out | apply below_alloc | apply pw_below_drewN | apply below_drew1 | refine below_set ?_ GE142.out | refine below_set ?_ GE143.out | refine below_set ?_ GE144.out | refine below_set ?_ GE161.out) | exact HB.out)⟩⟩
       case rest =>
        clear HC83
        (try clear c1); (try clear c2); (try clear p2); (try clear c3); (try clear c4); (try clear c5); (try clear c6); (try clear c7); (try clear c8); (try clear c20); (try clear c21); (try clear c40); (try clear c42); (try clear c43); (try clear c44); (try clear c45); (try clear c47); (try clear c48); (try clear c50); (try clear c50b0); (try clear c50b1); (try clear c51); (try clear c52); (try clear c52b0); (try clear c52b1); (try clear c53); (try clear c54); (try clear c55); (try clear c57); (try clear c58); (try clear c66); (try clear c68); (try clear c69); (try clear c70); (try clear c72); (try clear c73); (try clear c81); (try clear c84); (try clear c84b0); (try clear c84b1); (try clear hcz41_0); (try clear hcz41_1); (try clear hcz41_2); (try clear hcz41_3); (try clear hcz46_0); (try clear hcz46_1); (try clear hcz46_2); (try clear hcz46_3); (try clear hcz46_4); (try clear hcz49_0); (try clear hcz49_1); (try clear hcz49_2); (try clear hcz49_3); (try clear hcz49_4); (try clear hcz56_0); (try clear hcz56_1); (try clear hcz56_2); (try clear hcz56_3); (try clear hcz56_4); (try clear hcz59_0); (try clear hcz59_1); (try clear hcz59_2); (try clear hcz59_3); (try clear hcz65_0); (try clear hcz65_1); (try clear hcz65_2); (try clear hcz65_3); (try clear hcz65_4); (try clear hcz67_0); (try clear hcz67_1); (try clear hcz67_2); (try clear hcz67_3); (try clear hcz67_4); (try clear hcz71_0); (try clear hcz71_1); (try clear hcz71_2); (try clear hcz71_3); (try clear hcz71_4); (try clear hcz74_0); (try clear hcz74_1); (try clear hcz74_2); (try clear hcz74_3); (try clear hcz80_0); (try clear hcz80_1); (try clear hcz80_2); (try clear hcz80_3); (try clear hcz80_4); (try clear hcz82_0); (try clear hcz82_1); (try clear hcz82_2); (try clear hcz82_3); (try clear hcz82_4); (try clear hfz41_0); (try clear hfz41_1); (try clear hfz41_2); (try clear hfz41_3); (try clear hfz46_0); (try clear hfz46_1); (try clear hfz46_2); (try clear hfz46_3); (try clear hfz46_4); (try clear hfz49_0); (try clear hfz49_1); (try clear hfz49_2); (try clear hfz49_3); (try clear hfz49_4); (try clear hfz56_0); (try clear hfz56_1); (try clear hfz56_2); (try clear hfz56_3); (try clear hfz56_4); (try clear hfz59_0); (try clear hfz59_1); (try clear hfz59_2); (try clear hfz59_3); (try clear hfz65_0); (try clear hfz65_1); (try clear hfz65_2); (try clear hfz65_3); (try clear hfz65_4); (try clear hfz67_0); (try clear hfz67_1); (try clear hfz67_2); (try clear hfz67_3); (try clear hfz67_4); (try clear hfz71_0); (try clear hfz71_1); (try clear hfz71_2); (try clear hfz71_3); (try clear hfz71_4); (try clear hfz74_0); (try clear hfz74_1); (try clear hfz74_2); (try clear hfz74_3); (try clear hfz80_0); (try clear hfz80_1); (try clear hfz80_2); (try clear hfz80_3); (try clear hfz80_4); (try clear hfz82_0); (try clear hfz82_1); (try clear hfz82_2); (try clear hfz82_3); (try clear hfz82_4); (try clear p2)
        obtain ⟨kq, x51_82, rfl, HA, HJ82, HO_162002, HO_162003, HO_162004, BK142, BK143, BK144, BK161, HB⟩ := hcut
        cases kq with
        | zero => exact absurd HA.out (by simp [review_Apply.j1])
        | succ kj82 =>
         have H := HA.out
         clear HA
         simp only [review_Apply.j1] at H
         by_cases c85 : x51_82 = true
         ·
          subst c85
          have H1 : (some (1, a0_1, ([] : List Int), ([] : List Int), y158, 0)) = some (r1, r2, r3, r4, r5, r6) := by rw [if_pos rfl] at H; exact H
          clear H
          have H := H1
          clear H1
          simp only [Option.some.injEq, Prod.mk.injEq] at H
          obtain ⟨rfl, rfl, rfl, rfl, rfl, rfl⟩ := H
          have hnb86 := NB161_142.out
          have hnc86 := NB142_161.out
          have hnb87 := NB161_143.out
          have hnc87 := NB143_161.out
          have hnb88 := NB161_144.out
          have hnc88 := NB144_161.out
          have hcz89_0 : wc.cell? ⟨gb161, 0, none⟩ = some (.int .i64 a0_0) := (blk_cell BK161.out 0).trans rfl
          have hcz89_1 : wc.cell? ⟨gb161, 1, none⟩ = some (.int .i64 a0_1) := (blk_cell BK161.out 1).trans rfl
          have hcz89_2 : wc.cell? ⟨gb161, 2, none⟩ = some (.slice Ao39 t146.length co39) := (blk_cell BK161.out 2).trans rfl
          have hcz89_3 : wc.cell? ⟨gb161, 3, none⟩ = some (.slice Ao38 t149.length co38) := (blk_cell BK161.out 3).trans rfl
          have hcz89_4 : wc.cell? ⟨gb161, 4, none⟩ = some (.slice Ao37 y158.length co37) := (blk_cell BK161.out 4).trans rfl
          have hfz89_0 := blk_frozen BK161.out 0
          have hfz89_1 := blk_frozen BK161.out 1
          have hfz89_2 := blk_frozen BK161.out 2
          have hfz89_3 := blk_frozen BK161.out 3
          have hfz89_4 := blk_frozen BK161.out 4
          have hnb90 := NB144_142.out
          have hnc90 := NB142_144.out
          have hnb91 := NB144_143.out
          have hnc91 := NB143_144.out
          have hcz92_0 : wc.cell? ⟨gb144, 0, none⟩ = some (.int .i64 0) := (blk_cell BK144.out 0).trans rfl
          have hcz92_1 : wc.cell? ⟨gb144, 1, none⟩ = some (.int .i64 0) := (blk_cell BK144.out 1).trans rfl
          have hcz92_2 : wc.cell? ⟨gb144, 2, none⟩ = some (.slice none 0 0) := (blk_cell BK144.out 2).trans rfl
          have hcz92_3 : wc.cell? ⟨gb144, 3, none⟩ = some (.slice none 0 0) := (blk_cell BK144.out 3).trans rfl
          have hcz92_4 : wc.cell? ⟨gb144, 4, none⟩ = some (.slice none 0 0) := (blk_cell BK144.out 4).trans rfl
          have hfz92_0 := blk_frozen BK144.out 0
          have hfz92_1 := blk_frozen BK144.out 1
          have hfz92_2 := blk_frozen BK144.out 2
          have hfz92_3 := blk_frozen BK144.out 3
          have hfz92_4 := blk_frozen BK144.out 4
          go_wp2
          refine bodyPost_ret (results_ct rfl _ _ gb144 25 #[.int .i64 1, .int .i64 a0_1, .slice none 0 0, .slice none 0 0, .slice Ao37 y158.length co37] (0, 0) _ rfl (by (with_reducible repeat (first | refine blk_drewN ?_ _ | refine blk_drew ?_ | refine blk_alloc ?_ _)); refine blk_put (cs := #[.int .i64 1, .int .i64 a0_1, .slice none 0 0, .slice none 0 0, .slice none 0 0]) ?_ 4 _ rfl; (with_reducible repeat (first | refine blk_drewN ?_ _ | refine blk_drew ?_ | refine blk_alloc ?_ _)); refine blk_put (cs := #[.int .i64 1, .int .i64 a0_1, .slice none 0 0, .slice none 0 0, .slice none 0 0]) ?_ 3 _ rfl; (with_reducible repeat (first | refine blk_drewN ?_ _ | refine blk_drew ?_ | refine blk_alloc ?_ _)); refine blk_put (cs := #[.int .i64 1, .int .i64 a0_1, .slice none 0 0, .slice none 0 0, .slice none 0 0]) ?_ 2 _ rfl; (with_reducible repeat (first | refine blk_drewN ?_ _ | refine blk_drew ?_ | refine blk_alloc ?_ _)); refine blk_put (cs := #[.int .i64 1, .int .i64 0, .slice none 0 0, .slice none 0 0, .slice none 0 0]) ?_ 1 _ rfl; (with_reducible repeat (first | refine blk_drewN ?_ _ | refine blk_drew ?_ | refine blk_alloc ?_ _)); refine blk_put (cs := #[.int .i64 0, .int .i64 0, .slice none 0 0, .slice none 0 0, .slice none 0 0]) ?_ 0 _ rfl; (with_reducible repeat (first | refine blk_drewN ?_ _ | refine blk_drew ?_ | refine blk_alloc ?_ _)); refine blk_far ?_ NB144_161.out _; (with_reducible repeat (first | refine blk_drewN ?_ _ | refine blk_drew ?_ | refine blk_alloc ?_ _)); refine blk_far ?_ NB144_161.out _; (with_reducible repeat (first | refine blk_drewN ?_ _ | refine blk_drew ?_ | refine blk_alloc ?_ _)); refine blk_far ?_ NB144_161.out _; (with_reducible repeat (first | refine blk_drewN ?_ _ | refine blk_drew ?_ | refine blk_alloc ?_ _)); exact BK144.out) Try.underlying25 rfl (by kernel_rfl)) rfl ?_
          exact ⟨_, _, _, by first | rfl | (simp [errW_none, errW_some] <;> rfl) | (simp [*, errW_none, errW_some] <;> rfl), by first | exact Kd.R_nil _ _ _ _ _ | exact Kd.N_nil _ _ _ _ _ | exact Kd.V_nil _ _ _ _ _ | exact Kd.Q_nil _ _ _ _ _ | exact Kd.S_nil _ _ _ _ _, by first | exact Kd.R_nil _ _ _ _ _ | exact Kd.N_nil _ _ _ _ _ | exact Kd.V_nil _ _ _ _ _ | exact Kd.Q_nil _ _ _ _ _ | exact Kd.S_nil _ _ _ _ _, by (with_reducible repeat (first | apply Kd.R_alloc | apply Kd.R_drewN | apply Kd.R_drew)); exact Kd.R_mono (Kd.R_far (p := ⟨gb144, 4, none⟩) (Kd.R_far (p := ⟨gb144, 3, none⟩) (Kd.R_far (p := ⟨gb144, 2, none⟩) (Kd.R_far (p := ⟨gb144, 1, none⟩) (Kd.R_far (p := ⟨gb144, 0, none⟩) (Kd.R_far (p := ⟨gb161, 3, none⟩) (Kd.R_far (p := ⟨gb161, 2, none⟩) (Kd.R_far (p := ⟨gb161, 0, none⟩) (Kd.R_types (Kd.R_types HO_162004.out BK161.out (by decide)) BK144.out (by decide)) (fun _ hk => hk.1.2) (.int .i64 1)) (fun _ hk => hk.1.2) (.slice none 0 0)) (fun _ hk => hk.1.2) (.slice none 0 0)) (fun _ hk => hk.2) (.int .i64 1)) (fun _ hk => hk.2) (.int .i64 a0_1)) (fun _ hk => hk.2) (.slice none 0 0)) (fun _ hk => hk.2) (.slice none 0 0)) (fun _ hk => hk.2) (.slice Ao37 y158.length co37)) (fun _ hk => trivial), by repeat (first | (with_reducible first | exact HB.out | apply below_alloc | apply pw_below_drewN | apply below_drew1 | refine below_set ?_ GE142.out | refine below_set ?_ GE143.out | refine below_set ?_ GE144.out | refine below_set ?_ GE161.out) | exact HB.out)⟩
         ·
          replace c85 := Bool.eq_false_iff.mpr c85
          subst c85
          have H1 : (if a1_0 = 4 then ((some (([a1_1] : List Int) : List Int)).bind fun y168 => (if t149.length + y168.length < 17592186044416 then (some (4, a0_1, t146, (t149 ++ y168), y158, 0)) else (none))) else (if a1_0 = 5 then (review_Apply.j2 kj82 a1_0 (a1_0 == 5) a0_0 a0_1 t146 t149 y158) else (review_Apply.j2 kj82 a1_0 (a1_0 == 7) a0_0 a0_1 t146 t149 y158))) = some (r1, r2, r3, r4, r5, r6) := by rw [if_neg (show ¬ (false = true) by decide)] at H; exact H
          clear H
          have H := H1
          clear H1
          by_cases c93 : a1_0 = 4
          ·
           rw [if_pos c93] at H
           have c93b0 : (a1_0 == 4) = true := beq_iff_eq.mpr c93
           have c93b1 : (a1_0 != 4) = false := bne_eq_false_iff_eq.mpr c93
           clear c93
           obtain ⟨y168, hy168⟩ : ∃ y_ : List Int, y_ = (([a1_1] : List Int)) := ⟨_, rfl⟩
           replace H : (if t149.length + y168.length < 17592186044416 then (some (4, a0_1, t146, (t149 ++ y168), y158, 0)) else (none)) = some (r1, r2, r3, r4, r5, r6) := by first | (rw [hy168]; with_reducible exact H) | (have H2_ := (Option.bind_some _ _).symm.trans H; rw [hy168]; with_reducible exact H2_) | (have H2_ := (Option.bind_some _ _).symm.trans H; with_reducible exact H2_) | with_reducible exact H | (rw [hy168]; exact H) | exact H
           have Ny168 := Aside0.mk hy168
           clear hy168
           by_cases c94 : t149.length + y168.length < 17592186044416
           ·
            rw [if_pos c94] at H
            have LMc94 := Aside0.mk c94
            clear c94
            obtain ⟨y171, hy171⟩ : ∃ y_ : List Int, y_ = (t149 ++ y168) := ⟨_, rfl⟩
            replace H : (some (4, a0_1, t146, y171, y158, 0)) = some (r1, r2, r3, r4, r5, r6) := by first | (rw [hy171]; with_reducible exact H) | (have H2_ := (Option.bind_some _ _).symm.trans H; rw [hy171]; with_reducible exact H2_) | (have H2_ := (Option.bind_some _ _).symm.trans H; with_reducible exact H2_) | with_reducible exact H | (rw [hy171]; exact H) | exact H
            have Ny171 := Aside0.mk hy171
            clear hy171
            simp only [Option.some.injEq, Prod.mk.injEq] at H
            obtain ⟨rfl, rfl, rfl, rfl, rfl, rfl⟩ := H
            have hnb95 := NB161_142.out
            have hnc95 := NB142_161.out
            have hnb96 := NB161_143.out
            have hnc96 := NB143_161.out
            have hnb97 := NB161_144.out
            have hnc97 := NB144_161.out
            have hcz98_0 : wc.cell? ⟨gb161, 0, none⟩ = some (.int .i64 a0_0) := (blk_cell BK161.out 0).trans rfl
            have hcz98_1 : wc.cell? ⟨gb161, 1, none⟩ = some (.int .i64 a0_1) := (blk_cell BK161.out 1).trans rfl
            have hcz98_2 : wc.cell? ⟨gb161, 2, none⟩ = some (.slice Ao39 t146.length co39) := (blk_cell BK161.out 2).trans rfl
            have hcz98_3 : wc.cell? ⟨gb161, 3, none⟩ = some (.slice Ao38 t149.length co38) := (blk_cell BK161.out 3).trans rfl
            have hcz98_4 : wc.cell? ⟨gb161, 4, none⟩ = some (.slice Ao37 y158.length co37) := (blk_cell BK161.out 4).trans rfl
            have hfz98_0 := blk_frozen BK161.out 0
            have hfz98_1 := blk_frozen BK161.out 1
            have hfz98_2 := blk_frozen BK161.out 2
            have hfz98_3 := blk_frozen BK161.out 3
            have hfz98_4 := blk_frozen BK161.out 4
            have hnb99 := NB143_142.out
            have hnc99 := NB142_143.out
            have hnb100 := NB143_144.out
            have hnc100 := NB144_143.out
            have hcz101_0 : wc.cell? ⟨gb143, 0, none⟩ = some (.int .i64 a1_0) := (blk_cell BK143.out 0).trans rfl
            have hcz101_1 : wc.cell? ⟨gb143, 1, none⟩ = some (.int .i64 a1_1) := (blk_cell BK143.out 1).trans rfl
            have hcz101_2 : wc.cell? ⟨gb143, 2, none⟩ = some (.int .i64 a1_2) := (blk_cell BK143.out 2).trans rfl
            have hcz101_3 : wc.cell? ⟨gb143, 3, none⟩ = some (.int .i64 a1_3) := (blk_cell BK143.out 3).trans rfl
            have hfz101_0 := blk_frozen BK143.out 0
            have hfz101_1 := blk_frozen BK143.out 1
            have hfz101_2 := blk_frozen BK143.out 2
            have hfz101_3 := blk_frozen BK143.out 3
            go_wp2_with (first | ((with_reducible refine gate_dst (N := 63) rfl ?_); refine Kd.R_lit (Kd.int .i64) _ 3 ?hg (N := 63) ?hd (xs := ([a1_1] : List Int)) (inner := [.int .i64 a1_1]) (ok := fun _ => True) (okp := fun _ => True) ?hr ?hp (fun _ hk => hk) trivial (Below.refl _ _) (Nat.le_refl _) (by simp) ?_; (case hd => rfl); (case hg => rfl); (case hr => first | (go_simp; done) | (go_simp; rfl)); (case hp => exact (Reps.one (show Kd.M (Kd.int .i64) _ _ _ a1_1 [.int .i64 a1_1] from rfl) (Reps.none _ _))); intro v169 w102 ho103 hb hg_ hnew_; clear hg_ hnew_; (first | rw [← Ny168.out] at ho103 | (simp only [Int.reduceToNat] at ho103; rw [← Ny168.out] at ho103)); have n0_ := Aside0.mk (Kd.R_elder' (by (with_reducible repeat (first | apply Kd.R_alloc | apply Kd.R_drewN | apply Kd.R_drew)); exact HO_162002.out) (Kd.R_base ho103) hb); have n1_ := Aside0.mk (Kd.R_elder' (by (with_reducible repeat (first | apply Kd.R_alloc | apply Kd.R_drewN | apply Kd.R_drew)); exact HO_162003.out) (Kd.R_base ho103) hb); have n2_ := Aside0.mk (Kd.R_below (by (with_reducible repeat (first | apply Kd.R_alloc | apply Kd.R_drewN | apply Kd.R_drew)); exact HO_162004.out) hb); have n3_ := Aside0.mk (Kd.R_lower (Kd.R_new' (Kd.R_new' ho103 (Kd.R_lt (by (with_reducible repeat (first | apply Kd.R_alloc | apply Kd.R_drewN | apply Kd.R_drew)); exact HO_162002.out))) (Kd.R_lt (by (with_reducible repeat (first | apply Kd.R_alloc | apply Kd.R_drewN | apply Kd.R_drew)); exact HO_162003.out))) (below_size (by repeat (first | (with_reducible first | exact HB.out | apply below_alloc | apply pw_below_drewN | apply below_drew1 | refine below_set ?_ GE142.out | refine below_set ?_ GE143.out | refine below_set ?_ GE144.out | refine below_set ?_ GE161.out) | exact HB.out)))); have n4_ := Aside0.mk (blk_below (g := gb142) (o := .cells #[.int .i64 a0_0, .int .i64 a0_1, .slice A0_2 l0_2.length c0_2, .slice A0_3 l0_3.length c0_3, .slice A0_4 l0_4.length c0_4] 25 (0, 0)) (by (with_reducible repeat (first | refine blk_drewN ?_ _ | refine blk_drew ?_ | refine blk_alloc ?_ _)); exact BK142.out) hb); have n5_ := Aside0.mk (blk_below (g := gb143) (o := .cells #[.int .i64 a1_0, .int .i64 a1_1, .int .i64 a1_2, .int .i64 a1_3] 34 (0, 0)) (by (with_reducible repeat (first | refine blk_drewN ?_ _ | refine blk_drew ?_ | refine blk_alloc ?_ _)); exact BK143.out) hb); have n6_ := Aside0.mk (blk_below (g := gb144) (o := .cells #[.int .i64 0, .int .i64 0, .slice none 0 0, .slice none 0 0, .slice none 0 0] 25 (0, 0)) (by (with_reducible repeat (first | refine blk_drewN ?_ _ | refine blk_drew ?_ | refine blk_alloc ?_ _)); exact BK144.out) hb); have n7_ := Aside0.mk (blk_below (g := gb161) (o := .cells #[.int .i64 a0_0, .int .i64 a0_1, .slice Ao39 t146.length co39, .slice Ao38 t149.length co38, .slice Ao37 y158.length co37] 25 (0, 0)) (by (with_reducible repeat (first | refine blk_drewN ?_ _ | refine blk_drew ?_ | refine blk_alloc ?_ _)); exact BK161.out) hb); have n8_ := Aside0.mk (below_step (by repeat (first | (with_reducible first | exact HB.out | apply below_alloc | apply pw_below_drewN | apply below_drew1 | refine below_set ?_ GE142.out | refine below_set ?_ GE143.out | refine below_set ?_ GE144.out | refine below_set ?_ GE161.out) | exact HB.out)) hb); clear HO_162002; clear HO_162003; clear HO_162004; clear BK142; clear BK143; clear BK144; clear BK161; clear HB; have HO_162002 := n0_; have HO_162003 := n1_; have HO_162004 := n2_; have HO170 := n3_; have BK142 := n4_; have BK143 := n5_; have BK144 := n6_; have BK161 := n7_; have HB := n8_; clear n0_ n1_ n2_ n3_ n4_ n5_ n6_ n7_ n8_; clear hb ho103; obtain ⟨Ao105, co105, eo105⟩ := Kd.R_slice HO170.out; subst eo105) | ((with_reducible refine gate_builtin (b := .append) (xs := #[.tmp 60, .tmp 63]) rfl ?_); at_builtin; refine Kd.R_append_rows (Kd.int .i64) (w0 := w) w.heap.size rfl (.tmp 60) (.tmp 63) 22 3 (.int .i64 0) 8 rfl Try.underlying22 info3 rfl (by decide) (by omega) (.slice Ao38 t149.length co38) t149 y168 _ _ _ (fun k_ => some k_ ≠ (.slice Ao39 t146.length co39 : Value).ownBlock ∧ some k_ ≠ (.slice Ao105 y168.length co105 : Value).ownBlock) (fun _ => False) rfl rfl ?aO ?aR (fun _ _ h => h) (fun _ h => h.elim) ?aF ?aB ?aS ?aL ?_; (case aR => repeat (first | exact (Kd.R_reads' HO170.out).2.2 | (with_reducible refine Kd.C_alloc ?_ _) | (with_reducible refine Kd.C_drewN ?_ _) | (with_reducible refine Kd.C_drew ?_))); (case aB => exact (by repeat (first | (with_reducible first | exact HB.out | apply below_alloc | apply pw_below_drewN | apply below_drew1 | refine below_set ?_ GE142.out | refine below_set ?_ GE143.out | refine below_set ?_ GE144.out | refine below_set ?_ GE161.out) | exact HB.out))); (case aF => exact (fun k_ hk => ⟨Kd.fresh' (Kd.R_lt (by (with_reducible repeat (first | apply Kd.R_alloc | apply Kd.R_drewN | apply Kd.R_drew)); exact HO_162002.out)) k_ hk, Kd.fresh' (Kd.R_lt (by (with_reducible repeat (first | apply Kd.R_alloc | apply Kd.R_drewN | apply Kd.R_drew)); exact HO170.out)) k_ hk⟩)); (case aO => exact (by (with_reducible repeat (first | apply Kd.R_alloc | apply Kd.R_drewN | apply Kd.R_drew)); exact HO_162003.out)); (case aS => exact (below_size (by repeat (first | (with_reducible first | exact HB.out | apply below_alloc | apply pw_below_drewN | apply below_drew1 | refine below_set ?_ GE142.out | refine below_set ?_ GE143.out | refine below_set ?_ GE144.out | refine below_set ?_ GE161.out) | exact HB.out)))); (case aL => have := LMc94.out; omega); intro v172 w104 ho hb hg hat; rw [← Ny171.out] at ho; have n0_ := Aside0.mk (Kd.R_after (ok := (fun k_ => some k_ ≠ (.slice Ao105 y168.length co105 : Value).ownBlock)) (by (with_reducible repeat (first | apply Kd.R_alloc | apply Kd.R_drewN | apply Kd.R_drew)); exact Kd.R_mono HO_162002.out (fun _ hk => ⟨hk.2, hk.1⟩)) hg hat); have n1_ := Aside0.mk (Kd.R_over' (by (with_reducible repeat (first | apply Kd.R_alloc | apply Kd.R_drewN | apply Kd.R_drew)); exact HO_162004.out) (Kd.R_typed (by (with_reducible repeat (first | apply Kd.R_alloc | apply Kd.R_drewN | apply Kd.R_drew)); exact HO_162003.out)) (by decide) hg); have n2_ := Aside0.mk (blk_grown (g := gb142) (o := .cells #[.int .i64 a0_0, .int .i64 a0_1, .slice A0_2 l0_2.length c0_2, .slice A0_3 l0_3.length c0_3, .slice A0_4 l0_4.length c0_4] 25 (0, 0)) (by (with_reducible repeat (first | refine blk_drewN ?_ _ | refine blk_drew ?_ | refine blk_alloc ?_ _)); exact BK142.out) hg (Kd.R_ne HO_162003.out BK142.out (by decide))); have n3_ := Aside0.mk (blk_grown (g := gb143) (o := .cells #[.int .i64 a1_0, .int .i64 a1_1, .int .i64 a1_2, .int .i64 a1_3] 34 (0, 0)) (by (with_reducible repeat (first | refine blk_drewN ?_ _ | refine blk_drew ?_ | refine blk_alloc ?_ _)); exact BK143.out) hg (Kd.R_ne HO_162003.out BK143.out (by decide))); have n4_ := Aside0.mk (blk_grown (g := gb144) (o := .cells #[.int .i64 0, .int .i64 0, .slice none 0 0, .slice none 0 0, .slice none 0 0] 25 (0, 0)) (by (with_reducible repeat (first | refine blk_drewN ?_ _ | refine blk_drew ?_ | refine blk_alloc ?_ _)); exact BK144.out) hg (Kd.R_ne HO_162003.out BK144.out (by decide))); have n5_ := Aside0.mk (blk_grown (g := gb161) (o := .cells #[.int .i64 a0_0, .int .i64 a0_1, .slice Ao39 t146.length co39, .slice Ao38 t149.length co38, .slice Ao37 y158.length co37] 25 (0, 0)) (by (with_reducible repeat (first | refine blk_drewN ?_ _ | refine blk_drew ?_ | refine blk_alloc ?_ _)); exact BK161.out) hg (Kd.R_ne HO_162003.out BK161.out (by decide))); have n6_ := Aside0.mk (Kd.R_after (ok := (fun k_ => some k_ ≠ (.slice Ao39 t146.length co39 : Value).ownBlock)) (by (with_reducible repeat (first | apply Kd.R_alloc | apply Kd.R_drewN | apply Kd.R_drew)); exact Kd.R_mono HO170.out (fun _ hk => ⟨hk.1.2, hk.2⟩)) hg hat); have n7_ := Aside0.mk (hb); have n8_ := Aside0.mk (ho); clear HO_162002; clear HO_162004; clear BK142; clear BK143; clear BK144; clear BK161; clear HO170; clear HB; clear HO_162003; have HO_162002 := n0_; have HO_162004 := n1_; have BK142 := n2_; have BK143 := n3_; have BK144 := n4_; have BK161 := n5_; have HO170 := n6_; have HB := n7_; have HO173 := n8_; clear n0_ n1_ n2_ n3_ n4_ n5_ n6_ n7_ n8_; clear ho hb hg hat; obtain ⟨Ao106, co106, eo106⟩ := Kd.R_slice HO173.out; subst eo106; have hcz107_0 : w104.cell? ⟨gb161, 0, none⟩ = some (.int .i64 a0_0) := (blk_cell BK161.out 0).trans rfl; have hcz107_1 : w104.cell? ⟨gb161, 1, none⟩ = some (.int .i64 a0_1) := (blk_cell BK161.out 1).trans rfl; have hcz107_2 : w104.cell? ⟨gb161, 2, none⟩ = some (.slice Ao39 t146.length co39) := (blk_cell BK161.out 2).trans rfl; have hcz107_3 : w104.cell? ⟨gb161, 3, none⟩ = some (.slice Ao38 t149.length co38) := (blk_cell BK161.out 3).trans rfl; have hcz107_4 : w104.cell? ⟨gb161, 4, none⟩ = some (.slice Ao37 y158.length co37) := (blk_cell BK161.out 4).trans rfl; have hfz107_0 := blk_frozen BK161.out 0; have hfz107_1 := blk_frozen BK161.out 1; have hfz107_2 := blk_frozen BK161.out 2; have hfz107_3 := blk_frozen BK161.out 3; have hfz107_4 := blk_frozen BK161.out 4; have hnb108 := NB144_142.out; have hnc108 := NB142_144.out; have hcz109_0 : w104.cell? ⟨gb144, 0, none⟩ = some (.int .i64 0) := (blk_cell BK144.out 0).trans rfl; have hcz109_1 : w104.cell? ⟨gb144, 1, none⟩ = some (.int .i64 0) := (blk_cell BK144.out 1).trans rfl; have hcz109_2 : w104.cell? ⟨gb144, 2, none⟩ = some (.slice none 0 0) := (blk_cell BK144.out 2).trans rfl; have hcz109_3 : w104.cell? ⟨gb144, 3, none⟩ = some (.slice none 0 0) := (blk_cell BK144.out 3).trans rfl; have hcz109_4 : w104.cell? ⟨gb144, 4, none⟩ = some (.slice none 0 0) := (blk_cell BK144.out 4).trans rfl; have hfz109_0 := blk_frozen BK144.out 0; have hfz109_1 := blk_frozen BK144.out 1; have hfz109_2 := blk_frozen BK144.out 2; have hfz109_3 := blk_frozen BK144.out 3; have hfz109_4 := blk_frozen BK144.out 4))
            refine bodyPost_ret (results_ct rfl _ _ gb144 25 #[.int .i64 4, .int .i64 a0_1, .slice Ao39 t146.length co39, .slice Ao106 y171.length co106, .slice Ao37 y158.length co37] (0, 0) _ rfl (by (with_reducible repeat (first | refine blk_drewN ?_ _ | refine blk_drew ?_ | refine blk_alloc ?_ _)); refine blk_put (cs := #[.int .i64 4, .int .i64 a0_1, .slice Ao39 t146.length co39, .slice Ao106 y171.length co106, .slice none 0 0]) ?_ 4 _ rfl; (with_reducible repeat (first | refine blk_drewN ?_ _ | refine blk_drew ?_ | refine blk_alloc ?_ _)); refine blk_put (cs := #[.int .i64 4, .int .i64 a0_1, .slice Ao39 t146.length co39, .slice none 0 0, .slice none 0 0]) ?_ 3 _ rfl; (with_reducible repeat (first | refine blk_drewN ?_ _ | refine blk_drew ?_ | refine blk_alloc ?_ _)); refine blk_put (cs := #[.int .i64 4, .int .i64 a0_1, .slice none 0 0, .slice none 0 0, .slice none 0 0]) ?_ 2 _ rfl; (with_reducible repeat (first | refine blk_drewN ?_ _ | refine blk_drew ?_ | refine blk_alloc ?_ _)); refine blk_put (cs := #[.int .i64 4, .int .i64 0, .slice none 0 0, .slice none 0 0, .slice none 0 0]) ?_ 1 _ rfl; (with_reducible repeat (first | refine blk_drewN ?_ _ | refine blk_drew ?_ | refine blk_alloc ?_ _)); refine blk_put (cs := #[.int .i64 0, .int .i64 0, .slice none 0 0, .slice none 0 0, .slice none 0 0]) ?_ 0 _ rfl; (with_reducible repeat (first | refine blk_drewN ?_ _ | refine blk_drew ?_ | refine blk_alloc ?_ _)); refine blk_far ?_ NB144_161.out _; (with_reducible repeat (first | refine blk_drewN ?_ _ | refine blk_drew ?_ | refine blk_alloc ?_ _)); refine blk_far ?_ NB144_161.out _; (with_reducible repeat (first | refine blk_drewN ?_ _ | refine blk_drew ?_ | refine blk_alloc ?_ _)); exact BK144.out) Try.underlying25 rfl (by kernel_rfl)) rfl ?_
            exact ⟨_, _, _, by first | rfl | (simp [errW_none, errW_some] <;> rfl) | (simp [*, errW_none, errW_some] <;> rfl), by (with_reducible repeat (first | apply Kd.R_alloc | apply Kd.R_drewN | apply Kd.R_drew)); exact Kd.R_mono (Kd.R_far (p := ⟨gb144, 4, none⟩) (Kd.R_far (p := ⟨gb144, 3, none⟩) (Kd.R_far (p := ⟨gb144, 2, none⟩) (Kd.R_far (p := ⟨gb144, 1, none⟩) (Kd.R_far (p := ⟨gb144, 0, none⟩) (Kd.R_far (p := ⟨gb161, 0, none⟩) (Kd.R_far (p := ⟨gb161, 3, none⟩) (Kd.R_types (Kd.R_types HO_162002.out BK161.out (by decide)) BK144.out (by decide)) (fun _ hk => hk.1.2) (.slice Ao106 y171.length co106)) (fun _ hk => hk.1.2) (.int .i64 4)) (fun _ hk => hk.2) (.int .i64 4)) (fun _ hk => hk.2) (.int .i64 a0_1)) (fun _ hk => hk.2) (.slice Ao39 t146.length co39)) (fun _ hk => hk.2) (.slice Ao106 y171.length co106)) (fun _ hk => hk.2) (.slice Ao37 y158.length co37)) (fun _ hk => hk.1.1.2), by (with_reducible repeat (first | apply Kd.R_alloc | apply Kd.R_drewN | apply Kd.R_drew)); exact Kd.R_mono (Kd.R_far (p := ⟨gb144, 4, none⟩) (Kd.R_far (p := ⟨gb144, 3, none⟩) (Kd.R_far (p := ⟨gb144, 2, none⟩) (Kd.R_far (p := ⟨gb144, 1, none⟩) (Kd.R_far (p := ⟨gb144, 0, none⟩) (Kd.R_far (p := ⟨gb161, 0, none⟩) (Kd.R_far (p := ⟨gb161, 3, none⟩) (Kd.R_types (Kd.R_types HO173.out BK161.out (by decide)) BK144.out (by decide)) (fun _ hk => hk.1.2) (.slice Ao106 y171.length co106)) (fun _ hk => hk.1.2) (.int .i64 4)) (fun _ hk => hk.2) (.int .i64 4)) (fun _ hk => hk.2) (.int .i64 a0_1)) (fun _ hk => hk.2) (.slice Ao39 t146.length co39)) (fun _ hk => hk.2) (.slice Ao106 y171.length co106)) (fun _ hk => hk.2) (.slice Ao37 y158.length co37)) (fun _ hk => hk.1.1.1), by (with_reducible repeat (first | apply Kd.R_alloc | apply Kd.R_drewN | apply Kd.R_drew)); exact Kd.R_mono (Kd.R_far (p := ⟨gb144, 4, none⟩) (Kd.R_far (p := ⟨gb144, 3, none⟩) (Kd.R_far (p := ⟨gb144, 2, none⟩) (Kd.R_far (p := ⟨gb144, 1, none⟩) (Kd.R_far (p := ⟨gb144, 0, none⟩) (Kd.R_far (p := ⟨gb161, 0, none⟩) (Kd.R_far (p := ⟨gb161, 3, none⟩) (Kd.R_types (Kd.R_types HO_162004.out BK161.out (by decide)) BK144.out (by decide)) (fun _ hk => hk.1.2) (.slice Ao106 y171.length co106)) (fun _ hk => hk.1.2) (.int .i64 4)) (fun _ hk => hk.2) (.int .i64 4)) (fun _ hk => hk.2) (.int .i64 a0_1)) (fun _ hk => hk.2) (.slice Ao39 t146.length co39)) (fun _ hk => hk.2) (.slice Ao106 y171.length co106)) (fun _ hk => hk.2) (.slice Ao37 y158.length co37)) (fun _ hk => trivial), by repeat (first | (with_reducible first | exact HB.out | apply below_alloc | apply pw_below_drewN | apply below_drew1 | refine below_set ?_ GE142.out | refine below_set ?_ GE143.out | refine below_set ?_ GE144.out | refine below_set ?_ GE161.out) | exact HB.out)⟩
           ·
            rw [if_neg c94] at H
            exact absurd H (by simp)
          ·
           rw [if_neg c93] at H
           have c93b0 : (a1_0 == 4) = false := beq_eq_false_iff_ne.mpr c93
           have c93b1 : (a1_0 != 4) = true := bne_iff_ne.mpr c93
           have HC110 := Aside0.mk H
           clear H
           go_upto_if 67 with (fail)
           go_cut [67] (fun v67 wc => ∃ (kq : Nat) (x67_109 : Bool), v67 = .bool x67_109 ∧ Aside0 (review_Apply.j2 kq a1_0 x67_109 a0_0 a0_1 t146 t149 y158 = some (r1, r2, r3, r4, r5, r6)) ∧ Aside0 (kq ≤ kj82) ∧ Aside0 (Kd.R (Kd.int .i64) 3 wc w.heap.size (fun k_ => some k_ ≠ ((.slice Ao38 t149.length co38) : Value).ownBlock) (.slice Ao39 t146.length co39) t146) ∧ Aside0 (Kd.R (Kd.int .i64) 3 wc w.heap.size (fun k_ => some k_ ≠ ((.slice Ao39 t146.length co39) : Value).ownBlock) (.slice Ao38 t149.length co38) t149) ∧ Aside0 (Kd.R k34 34 wc w.heap.size (fun k_ => k_ ≠ gb143) (.slice Ao37 y158.length co37) y158) ∧ Aside0 (wc.heap[gb142]? = some (.cells #[.int .i64 a0_0, .int .i64 a0_1, (.slice A0_2 l0_2.length c0_2), (.slice A0_3 l0_3.length c0_3), (.slice A0_4 l0_4.length c0_4)] 25 (0, 0))) ∧ Aside0 (wc.heap[gb143]? = some (.cells #[.int .i64 a1_0, .int .i64 a1_1, .int .i64 a1_2, .int .i64 a1_3] 34 (0, 0))) ∧ Aside0 (wc.heap[gb144]? = some (.cells #[.int .i64 0, .int .i64 0, (.slice none 0 0), (.slice none 0 0), (.slice none 0 0)] 25 (0, 0))) ∧ Aside0 (wc.heap[gb161]? = some (.cells #[.int .i64 a0_0, .int .i64 a0_1, (.slice Ao39 t146.length co39), (.slice Ao38 t149.length co38), (.slice Ao37 y158.length co37)] 25 (0, 0))) ∧ Aside0 (Below w.heap.size w wc))
           case first =>
            have H := HC110.out
            clear HC110
            by_cases c111 : a1_0 = 5
            ·
             rw [if_pos c111] at H
             have c111b0 : (a1_0 == 5) = true := beq_iff_eq.mpr c111
             have c111b1 : (a1_0 != 5) = false := bne_eq_false_iff_eq.mpr c111
             clear c111
             (first | rw [c111b0] | (simp only [i64_w, i32_w]; rw [c111b0]) | skip)
             have H' := Aside0.mk H
             clear H
             go_wp2
             go_meet
             case rel => exact ⟨_, ((a1_0 == 5)), (by first | rfl | (simp; done) | (simp [*]; done)), H', ⟨by have := HJ8.out; have := HJ82.out; first | omega | exact Nat.le_refl _⟩, ⟨by (with_reducible repeat (first | apply Kd.R_alloc | apply Kd.R_drewN | apply Kd.R_drew)); exact HO_162002.out⟩, ⟨by (with_reducible repeat (first | apply Kd.R_alloc | apply Kd.R_drewN | apply Kd.R_drew)); exact HO_162003.out⟩, ⟨by (with_reducible repeat (first | apply Kd.R_alloc | apply Kd.R_drewN | apply Kd.R_drew)); exact HO_162004.out⟩, ⟨by (with_reducible repeat (first | refine blk_drewN ?_ _ | refine blk_drew ?_ | refine blk_alloc ?_ _)); exact BK142.out⟩, ⟨by (with_reducible repeat (first | refine blk_drewN ?_ _ | refine blk_drew ?_ | refine blk_alloc ?_ _)); exact BK143.out⟩, ⟨by (with_reducible repeat (first | refine blk_drewN ?_ _ | refine blk_drew ?_ | refine blk_alloc ?_ _)); exact BK144.out⟩, ⟨by (with_reducible repeat (first | refine blk_drewN ?_ _ | refine blk_drew ?_ | refine blk_alloc ?_ _)); exact BK161.out⟩, ⟨by repeat (first | (with_reducible first | exact HB.out | apply below_alloc | apply pw_below_drewN | apply below_drew1 | refine below_set ?_ GE142.out | refine below_set ?_ GE143.out | refine below_set ?_ GE144.out | refine below_set ?_ GE161.out) | exact HB.out)⟩⟩
            ·
             rw [if_neg c111] at H
             have c111b0 : (a1_0 == 5) = false := beq_eq_false_iff_ne.mpr c111
             have c111b1 : (a1_0 != 5) = true := bne_iff_ne.mpr c111
             (first | rw [c111b0] | (simp only [i64_w, i32_w]; rw [c111b0]) | skip)
             have H' := Aside0.mk H
             clear H
             go_wp2
             go_meet
             case rel => exact ⟨_, ((a1_0 == 7)), (by first | rfl | (simp; done) | (simp [*]; done)), H', ⟨by have := HJ8.out; have := HJ82.out; first | omega | exact Nat.le_refl _⟩, ⟨by (with_reducible repeat (first | apply Kd.R_alloc | apply Kd.R_drewN | apply Kd.R_drew)); exact HO_162002.out⟩, ⟨by (with_reducible repeat (first | apply Kd.R_alloc | apply Kd.R_drewN | apply Kd.R_drew)); exact HO_162003.out⟩, ⟨by (with_reducible repeat (first | apply Kd.R_alloc | apply Kd.R_drewN | apply Kd.R_drew)); exact HO_162004.out⟩, ⟨by (with_reducible repeat (first | refine blk_drewN ?_ _ | refine blk_drew ?_ | refine blk_alloc ?_ _)); exact BK142.out⟩, ⟨by (with_reducible repeat (first | refine blk_drewN ?_ _ | refine blk_drew ?_ | refine blk_alloc ?_ _)); exact BK143.out⟩, ⟨by (with_reducible repeat (first | refine blk_drewN ?_ _ | refine blk_drew ?_ | refine blk_alloc ?_ _)); exact BK144.out⟩, ⟨by (with_reducible repeat (first | refine blk_drewN ?_ _ | refine blk_drew ?_ | refine blk_alloc ?_ _)); exact BK161.out⟩, ⟨by repeat (first | (with_reducible first | exact HB.out | apply below_alloc | apply pw_below_drewN | apply below_drew1 | refine below_set ?_ GE142.out | refine below_set ?_ GE143.out | refine below_set ?_ GE144.out | refine below_set ?_ GE161.out) | exact HB.out)⟩⟩
           case rest =>
            clear HC110
            (try clear c1); (try clear c2); (try clear p2); (try clear c3); (try clear c4); (try clear c5); (try clear c6); (try clear c7); (try clear c8); (try clear c9); (try clear c10); (try clear c11); (try clear c20); (try clear c21); (try clear c40); (try clear c42); (try clear c43); (try clear c44); (try clear c45); (try clear c47); (try clear c48); (try clear c50); (try clear c50b0); (try clear c50b1); (try clear c51); (try clear c52); (try clear c52b0); (try clear c52b1); (try clear c53); (try clear c54); (try clear c55); (try clear c57); (try clear c58); (try clear c66); (try clear c68); (try clear c69); (try clear c70); (try clear c72); (try clear c73); (try clear c81); (try clear c84); (try clear c84b0); (try clear c84b1); (try clear c85); (try clear c86); (try clear c87); (try clear c88); (try clear c90); (try clear c91); (try clear c93); (try clear c93b0); (try clear c93b1); (try clear c94); (try clear c95); (try clear c96); (try clear c97); (try clear c99); (try clear c100); (try clear c108); (try clear c111); (try clear c111b0); (try clear c111b1); (try clear hcz101_0); (try clear hcz101_1); (try clear hcz101_2); (try clear hcz101_3); (try clear hcz107_0); (try clear hcz107_1); (try clear hcz107_2); (try clear hcz107_3); (try clear hcz107_4); (try clear hcz109_0); (try clear hcz109_1); (try clear hcz109_2); (try clear hcz109_3); (try clear hcz109_4); (try clear hcz41_0); (try clear hcz41_1); (try clear hcz41_2); (try clear hcz41_3); (try clear hcz46_0); (try clear hcz46_1); (try clear hcz46_2); (try clear hcz46_3); (try clear hcz46_4); (try clear hcz49_0); (try clear hcz49_1); (try clear hcz49_2); (try clear hcz49_3); (try clear hcz49_4); (try clear hcz56_0); (try clear hcz56_1); (try clear hcz56_2); (try clear hcz56_3); (try clear hcz56_4); (try clear hcz59_0); (try clear hcz59_1); (try clear hcz59_2); (try clear hcz59_3); (try clear hcz65_0); (try clear hcz65_1); (try clear hcz65_2); (try clear hcz65_3); (try clear hcz65_4); (try clear hcz67_0); (try clear hcz67_1); (try clear hcz67_2); (try clear hcz67_3); (try clear hcz67_4); (try clear hcz71_0); (try clear hcz71_1); (try clear hcz71_2); (try clear hcz71_3); (try clear hcz71_4); (try clear hcz74_0); (try clear hcz74_1); (try clear hcz74_2); (try clear hcz74_3); (try clear hcz80_0); (try clear hcz80_1); (try clear hcz80_2); (try clear hcz80_3); (try clear hcz80_4); (try clear hcz82_0); (try clear hcz82_1); (try clear hcz82_2); (try clear hcz82_3); (try clear hcz82_4); (try clear hcz89_0); (try clear hcz89_1); (try clear hcz89_2); (try clear hcz89_3); (try clear hcz89_4); (try clear hcz92_0); (try clear hcz92_1); (try clear hcz92_2); (try clear hcz92_3); (try clear hcz92_4); (try clear hcz98_0); (try clear hcz98_1); (try clear hcz98_2); (try clear hcz98_3); (try clear hcz98_4); (try clear hfz101_0); (try clear hfz101_1); (try clear hfz101_2); (try clear hfz101_3); (try clear hfz107_0); (try clear hfz107_1); (try clear hfz107_2); (try clear hfz107_3); (try clear hfz107_4); (try clear hfz109_0)
            (try clear hfz109_1); (try clear hfz109_2); (try clear hfz109_3); (try clear hfz109_4); (try clear hfz41_0); (try clear hfz41_1); (try clear hfz41_2); (try clear hfz41_3); (try clear hfz46_0); (try clear hfz46_1); (try clear hfz46_2); (try clear hfz46_3); (try clear hfz46_4); (try clear hfz49_0); (try clear hfz49_1); (try clear hfz49_2); (try clear hfz49_3); (try clear hfz49_4); (try clear hfz56_0); (try clear hfz56_1); (try clear hfz56_2); (try clear hfz56_3); (try clear hfz56_4); (try clear hfz59_0); (try clear hfz59_1); (try clear hfz59_2); (try clear hfz59_3); (try clear hfz65_0); (try clear hfz65_1); (try clear hfz65_2); (try clear hfz65_3); (try clear hfz65_4); (try clear hfz67_0); (try clear hfz67_1); (try clear hfz67_2); (try clear hfz67_3); (try clear hfz67_4); (try clear hfz71_0); (try clear hfz71_1); (try clear hfz71_2); (try clear hfz71_3); (try clear hfz71_4); (try clear hfz74_0); (try clear hfz74_1); (try clear hfz74_2); (try clear hfz74_3); (try clear hfz80_0); (try clear hfz80_1); (try clear hfz80_2); (try clear hfz80_3); (try clear hfz80_4); (try clear hfz82_0); (try clear hfz82_1); (try clear hfz82_2); (try clear hfz82_3); (try clear hfz82_4); (try clear hfz89_0); (try clear hfz89_1); (try clear hfz89_2); (try clear hfz89_3); (try clear hfz89_4); (try clear hfz92_0); (try clear hfz92_1); (try clear hfz92_2); (try clear hfz92_3); (try clear hfz92_4); (try clear hfz98_0); (try clear hfz98_1); (try clear hfz98_2); (try clear hfz98_3); (try clear hfz98_4); (try clear p2)
            obtain ⟨kq, x67_109, rfl, HA, HJ109, HO_162002, HO_162003, HO_162004, BK142, BK143, BK144, BK161, HB⟩ := hcut
            cases kq with
            | zero => exact absurd HA.out (by simp [review_Apply.j2])
            | succ kj109 =>
             have H := HA.out
             clear HA
             simp only [review_Apply.j2] at H
             by_cases c112 : x67_109 = true
             ·
              subst c112
              have H1 : (some (5, a0_1, t146, t149, y158, 0)) = some (r1, r2, r3, r4, r5, r6) := by rw [if_pos rfl] at H; exact H
              clear H
              have H := H1
              clear H1
              simp only [Option.some.injEq, Prod.mk.injEq] at H
              obtain ⟨rfl, rfl, rfl, rfl, rfl, rfl⟩ := H
              have hnb113 := NB161_142.out
              have hnc113 := NB142_161.out
              have hnb114 := NB161_143.out
              have hnc114 := NB143_161.out
              have hnb115 := NB161_144.out
              have hnc115 := NB144_161.out
              have hcz116_0 : wc.cell? ⟨gb161, 0, none⟩ = some (.int .i64 a0_0) := (blk_cell BK161.out 0).trans rfl
              have hcz116_1 : wc.cell? ⟨gb161, 1, none⟩ = some (.int .i64 a0_1) := (blk_cell BK161.out 1).trans rfl
              have hcz116_2 : wc.cell? ⟨gb161, 2, none⟩ = some (.slice Ao39 t146.length co39) := (blk_cell BK161.out 2).trans rfl
              have hcz116_3 : wc.cell? ⟨gb161, 3, none⟩ = some (.slice Ao38 t149.length co38) := (blk_cell BK161.out 3).trans rfl
              have hcz116_4 : wc.cell? ⟨gb161, 4, none⟩ = some (.slice Ao37 y158.length co37) := (blk_cell BK161.out 4).trans rfl
              have hfz116_0 := blk_frozen BK161.out 0
              have hfz116_1 := blk_frozen BK161.out 1
              have hfz116_2 := blk_frozen BK161.out 2
              have hfz116_3 := blk_frozen BK161.out 3
              have hfz116_4 := blk_frozen BK161.out 4
              have hnb117 := NB144_142.out
              have hnc117 := NB142_144.out
              have hnb118 := NB144_143.out
              have hnc118 := NB143_144.out
              have hcz119_0 : wc.cell? ⟨gb144, 0, none⟩ = some (.int .i64 0) := (blk_cell BK144.out 0).trans rfl
              have hcz119_1 : wc.cell? ⟨gb144, 1, none⟩ = some (.int .i64 0) := (blk_cell BK144.out 1).trans rfl
              have hcz119_2 : wc.cell? ⟨gb144, 2, none⟩ = some (.slice none 0 0) := (blk_cell BK144.out 2).trans rfl
              have hcz119_3 : wc.cell? ⟨gb144, 3, none⟩ = some (.slice none 0 0) := (blk_cell BK144.out 3).trans rfl
              have hcz119_4 : wc.cell? ⟨gb144, 4, none⟩ = some (.slice none 0 0) := (blk_cell BK144.out 4).trans rfl
              have hfz119_0 := blk_frozen BK144.out 0
              have hfz119_1 := blk_frozen BK144.out 1
              have hfz119_2 := blk_frozen BK144.out 2
              have hfz119_3 := blk_frozen BK144.out 3
              have hfz119_4 := blk_frozen BK144.out 4
              go_wp2
              refine bodyPost_ret (results_ct rfl _ _ gb144 25 #[.int .i64 5, .int .i64 a0_1, .slice Ao39 t146.length co39, .slice Ao38 t149.length co38, .slice Ao37 y158.length co37] (0, 0) _ rfl (by (with_reducible repeat (first | refine blk_drewN ?_ _ | refine blk_drew ?_ | refine blk_alloc ?_ _)); refine blk_put (cs := #[.int .i64 5, .int .i64 a0_1, .slice Ao39 t146.length co39, .slice Ao38 t149.length co38, .slice none 0 0]) ?_ 4 _ rfl; (with_reducible repeat (first | refine blk_drewN ?_ _ | refine blk_drew ?_ | refine blk_alloc ?_ _)); refine blk_put (cs := #[.int .i64 5, .int .i64 a0_1, .slice Ao39 t146.length co39, .slice none 0 0, .slice none 0 0]) ?_ 3 _ rfl; (with_reducible repeat (first | refine blk_drewN ?_ _ | refine blk_drew ?_ | refine blk_alloc ?_ _)); refine blk_put (cs := #[.int .i64 5, .int .i64 a0_1, .slice none 0 0, .slice none 0 0, .slice none 0 0]) ?_ 2 _ rfl; (with_reducible repeat (first | refine blk_drewN ?_ _ | refine blk_drew ?_ | refine blk_alloc ?_ _)); refine blk_put (cs := #[.int .i64 5, .int .i64 0, .slice none 0 0, .slice none 0 0, .slice none 0 0]) ?_ 1 _ rfl; (with_reducible repeat (first | refine blk_drewN ?_ _ | refine blk_drew ?_ | refine blk_alloc ?_ _)); refine blk_put (cs := #[.int .i64 0, .int .i64 0, .slice none 0 0, .slice none 0 0, .slice none 0 0]) ?_ 0 _ rfl; (with_reducible repeat (first | refine blk_drewN ?_ _ | refine blk_drew ?_ | refine blk_alloc ?_ _)); refine blk_far ?_ NB144_161.out _; (with_reducible repeat (first | refine blk_drewN ?_ _ | refine blk_drew ?_ | refine blk_alloc ?_ _)); exact BK144.out) Try.underlying25 rfl (by kernel_rfl)) rfl ?_
              exact ⟨_, _, _, by first | rfl | (simp [errW_none, errW_some] <;> rfl) | (simp [*, errW_none, errW_some] <;> rfl), by (with_reducible repeat (first | apply Kd.R_alloc | apply Kd.R_drewN | apply Kd.R_drew)); exact Kd.R_mono (Kd.R_far (p := ⟨gb144, 4, none⟩) (Kd.R_far (p := ⟨gb144, 3, none⟩) (Kd.R_far (p := ⟨gb144, 2, none⟩) (Kd.R_far (p := ⟨gb144, 1, none⟩) (Kd.R_far (p := ⟨gb144, 0, none⟩) (Kd.R_far (p := ⟨gb161, 0, none⟩) (Kd.R_types (Kd.R_types HO_162002.out BK161.out (by decide)) BK144.out (by decide)) (fun _ hk => hk.1.2) (.int .i64 5)) (fun _ hk => hk.2) (.int .i64 5)) (fun _ hk => hk.2) (.int .i64 a0_1)) (fun _ hk => hk.2) (.slice Ao39 t146.length co39)) (fun _ hk => hk.2) (.slice Ao38 t149.length co38)) (fun _ hk => hk.2) (.slice Ao37 y158.length co37)) (fun _ hk => hk.1.1), by (with_reducible repeat (first | apply Kd.R_alloc | apply Kd.R_drewN | apply Kd.R_drew)); exact Kd.R_mono (Kd.R_far (p := ⟨gb144, 4, none⟩) (Kd.R_far (p := ⟨gb144, 3, none⟩) (Kd.R_far (p := ⟨gb144, 2, none⟩) (Kd.R_far (p := ⟨gb144, 1, none⟩) (Kd.R_far (p := ⟨gb144, 0, none⟩) (Kd.R_far (p := ⟨gb161, 0, none⟩) (Kd.R_types (Kd.R_types HO_162003.out BK161.out (by decide)) BK144.out (by decide)) (fun _ hk => hk.1.2) (.int .i64 5)) (fun _ hk => hk.2) (.int .i64 5)) (fun _ hk => hk.2) (.int .i64 a0_1)) (fun _ hk => hk.2) (.slice Ao39 t146.length co39)) (fun _ hk => hk.2) (.slice Ao38 t149.length co38)) (fun _ hk => hk.2) (.slice Ao37 y158.length co37)) (fun _ hk => hk.1.1), by (with_reducible repeat (first | apply Kd.R_alloc | apply Kd.R_drewN | apply Kd.R_drew)); exact Kd.R_mono (Kd.R_far (p := ⟨gb144, 4, none⟩) (Kd.R_far (p := ⟨gb144, 3, none⟩) (Kd.R_far (p := ⟨gb144, 2, none⟩) (Kd.R_far (p := ⟨gb144, 1, none⟩) (Kd.R_far (p := ⟨gb144, 0, none⟩) (Kd.R_far (p := ⟨gb161, 0, none⟩) (Kd.R_types (Kd.R_types HO_162004.out BK161.out (by decide)) BK144.out (by decide)) (fun _ hk => hk.1.2) (.int .i64 5)) (fun _ hk => hk.2) (.int .i64 5)) (fun _ hk => hk.2) (.int .i64 a0_1)) (fun _ hk => hk.2) (.slice Ao39 t146.length co39)) (fun _ hk => hk.2) (.slice Ao38 t149.length co38)) (fun _ hk => hk.2) (.slice Ao37 y158.length co37)) (fun _ hk => trivial), by repeat (first | (with_reducible first | exact HB.out | apply below_alloc | apply pw_below_drewN | apply below_drew1 | refine below_set ?_ GE142.out | refine below_set ?_ GE143.out | refine below_set ?_ GE144.out | refine below_set ?_ GE161.out) | exact HB.out)⟩
             ·
              replace c112 := Bool.eq_false_iff.mpr c112
              subst c112
              have H1 : (if a1_0 = 6 then (some (6, a0_1, t146, t149, y158, 0)) else (if a1_0 = 8 then (some (7, a0_1, t146, t149, y158, 0)) else (some (a0_0, a0_1, t146, t149, y158, 0)))) = some (r1, r2, r3, r4, r5, r6) := by rw [if_neg (show ¬ (false = true) by decide)] at H; exact H
              clear H
              have H := H1
              clear H1
              by_cases c120 : a1_0 = 6
              ·
               rw [if_pos c120] at H
               have c120b0 : (a1_0 == 6) = true := beq_iff_eq.mpr c120
               have c120b1 : (a1_0 != 6) = false := bne_eq_false_iff_eq.mpr c120
               clear c120
               simp only [Option.some.injEq, Prod.mk.injEq] at H
               obtain ⟨rfl, rfl, rfl, rfl, rfl, rfl⟩ := H
               have hnb121 := NB161_142.out
               have hnc121 := NB142_161.out
               have hnb122 := NB161_143.out
               have hnc122 := NB143_161.out
               have hnb123 := NB161_144.out
               have hnc123 := NB144_161.out
               have hcz124_0 : wc.cell? ⟨gb161, 0, none⟩ = some (.int .i64 a0_0) := (blk_cell BK161.out 0).trans rfl
               have hcz124_1 : wc.cell? ⟨gb161, 1, none⟩ = some (.int .i64 a0_1) := (blk_cell BK161.out 1).trans rfl
               have hcz124_2 : wc.cell? ⟨gb161, 2, none⟩ = some (.slice Ao39 t146.length co39) := (blk_cell BK161.out 2).trans rfl
               have hcz124_3 : wc.cell? ⟨gb161, 3, none⟩ = some (.slice Ao38 t149.length co38) := (blk_cell BK161.out 3).trans rfl
               have hcz124_4 : wc.cell? ⟨gb161, 4, none⟩ = some (.slice Ao37 y158.length co37) := (blk_cell BK161.out 4).trans rfl
               have hfz124_0 := blk_frozen BK161.out 0
               have hfz124_1 := blk_frozen BK161.out 1
               have hfz124_2 := blk_frozen BK161.out 2
               have hfz124_3 := blk_frozen BK161.out 3
               have hfz124_4 := blk_frozen BK161.out 4
               have hnb125 := NB144_142.out
               have hnc125 := NB142_144.out
               have hnb126 := NB144_143.out
               have hnc126 := NB143_144.out
               have hcz127_0 : wc.cell? ⟨gb144, 0, none⟩ = some (.int .i64 0) := (blk_cell BK144.out 0).trans rfl
               have hcz127_1 : wc.cell? ⟨gb144, 1, none⟩ = some (.int .i64 0) := (blk_cell BK144.out 1).trans rfl
               have hcz127_2 : wc.cell? ⟨gb144, 2, none⟩ = some (.slice none 0 0) := (blk_cell BK144.out 2).trans rfl
               have hcz127_3 : wc.cell? ⟨gb144, 3, none⟩ = some (.slice none 0 0) := (blk_cell BK144.out 3).trans rfl
               have hcz127_4 : wc.cell? ⟨gb144, 4, none⟩ = some (.slice none 0 0) := (blk_cell BK144.out 4).trans rfl
               have hfz127_0 := blk_frozen BK144.out 0
               have hfz127_1 := blk_frozen BK144.out 1
               have hfz127_2 := blk_frozen BK144.out 2
               have hfz127_3 := blk_frozen BK144.out 3
               have hfz127_4 := blk_frozen BK144.out 4
               go_wp2
               refine bodyPost_ret (results_ct rfl _ _ gb144 25 #[.int .i64 6, .int .i64 a0_1, .slice Ao39 t146.length co39, .slice Ao38 t149.length co38, .slice Ao37 y158.length co37] (0, 0) _ rfl (by (with_reducible repeat (first | refine blk_drewN ?_ _ | refine blk_drew ?_ | refine blk_alloc ?_ _)); refine blk_put (cs := #[.int .i64 6, .int .i64 a0_1, .slice Ao39 t146.length co39, .slice Ao38 t149.length co38, .slice none 0 0]) ?_ 4 _ rfl; (with_reducible repeat (first | refine blk_drewN ?_ _ | refine blk_drew ?_ | refine blk_alloc ?_ _)); refine blk_put (cs := #[.int .i64 6, .int .i64 a0_1, .slice Ao39 t146.length co39, .slice none 0 0, .slice none 0 0]) ?_ 3 _ rfl; (with_reducible repeat (first | refine blk_drewN ?_ _ | refine blk_drew ?_ | refine blk_alloc ?_ _)); refine blk_put (cs := #[.int .i64 6, .int .i64 a0_1, .slice none 0 0, .slice none 0 0, .slice none 0 0]) ?_ 2 _ rfl; (with_reducible repeat (first | refine blk_drewN ?_ _ | refine blk_drew ?_ | refine blk_alloc ?_ _)); refine blk_put (cs := #[.int .i64 6, .int .i64 0, .slice none 0 0, .slice none 0 0, .slice none 0 0]) ?_ 1 _ rfl; (with_reducible repeat (first | refine blk_drewN ?_ _ | refine blk_drew ?_ | refine blk_alloc ?_ _)); refine blk_put (cs := #[.int .i64 0, .int .i64 0, .slice none 0 0, .slice none 0 0, .slice none 0 0]) ?_ 0 _ rfl; (with_reducible repeat (first | refine blk_drewN ?_ _ | refine blk_drew ?_ | refine blk_alloc ?_ _)); refine blk_far ?_ NB144_161.out _; (with_reducible repeat (first | refine blk_drewN ?_ _ | refine blk_drew ?_ | refine blk_alloc ?_ _)); exact BK144.out) Try.underlying25 rfl (by kernel_rfl)) rfl ?_
               exact ⟨_, _, _, by first | rfl | (simp [errW_none, errW_some] <;> rfl) | (simp [*, errW_none, errW_some] <;> rfl), by (with_reducible repeat (first | apply Kd.R_alloc | apply Kd.R_drewN | apply Kd.R_drew)); exact Kd.R_mono (Kd.R_far (p := ⟨gb144, 4, none⟩) (Kd.R_far (p := ⟨gb144, 3, none⟩) (Kd.R_far (p := ⟨gb144, 2, none⟩) (Kd.R_far (p := ⟨gb144, 1, none⟩) (Kd.R_far (p := ⟨gb144, 0, none⟩) (Kd.R_far (p := ⟨gb161, 0, none⟩) (Kd.R_types (Kd.R_types HO_162002.out BK161.out (by decide)) BK144.out (by decide)) (fun _ hk => hk.1.2) (.int .i64 6)) (fun _ hk => hk.2) (.int .i64 6)) (fun _ hk => hk.2) (.int .i64 a0_1)) (fun _ hk => hk.2) (.slice Ao39 t146.length co39)) (fun _ hk => hk.2) (.slice Ao38 t149.length co38)) (fun _ hk => hk.2) (.slice Ao37 y158.length co37)) (fun _ hk => hk.1.1), by (with_reducible repeat (first | apply Kd.R_alloc | apply Kd.R_drewN | apply Kd.R_drew)); exact Kd.R_mono (Kd.R_far (p := ⟨gb144, 4, none⟩) (Kd.R_far (p := ⟨gb144, 3, none⟩) (Kd.R_far (p := ⟨gb144, 2, none⟩) (Kd.R_far (p := ⟨gb144, 1, none⟩) (Kd.R_far (p := ⟨gb144, 0, none⟩) (Kd.R_far (p := ⟨gb161, 0, none⟩) (Kd.R_types (Kd.R_types HO_162003.out BK161.out (by decide)) BK144.out (by decide)) (fun _ hk => hk.1.2) (.int .i64 6)) (fun _ hk => hk.2) (.int .i64 6)) (fun _ hk => hk.2) (.int .i64 a0_1)) (fun _ hk => hk.2) (.slice Ao39 t146.length co39)) (fun _ hk => hk.2) (.slice Ao38 t149.length co38)) (fun _ hk => hk.2) (.slice Ao37 y158.length co37)) (fun _ hk => hk.1.1), by (with_reducible repeat (first | apply Kd.R_alloc | apply Kd.R_drewN | apply Kd.R_drew)); exact Kd.R_mono (Kd.R_far (p := ⟨gb144, 4, none⟩) (Kd.R_far (p := ⟨gb144, 3, none⟩) (Kd.R_far (p := ⟨gb144, 2, none⟩) (Kd.R_far (p := ⟨gb144, 1, none⟩) (Kd.R_far (p := ⟨gb144, 0, none⟩) (Kd.R_far (p := ⟨gb161, 0, none⟩) (Kd.R_types (Kd.R_types HO_162004.out BK161.out (by decide)) BK144.out (by decide)) (fun _ hk => hk.1.2) (.int .i64 6)) (fun _ hk => hk.2) (.int .i64 6)) (fun _ hk => hk.2) (.int .i64 a0_1)) (fun _ hk => hk.2) (.slice Ao39 t146.length co39)) (fun _ hk => hk.2) (.slice Ao38 t149.length co38)) (fun _ hk => hk.2) (.slice Ao37 y158.length co37)) (fun _ hk => trivial), by repeat (first | (with_reducible first | exact HB.out | apply below_alloc | apply pw_below_drewN | apply below_drew1 | refine below_set ?_ GE142.out | refine below_set ?_ GE143.out | refine below_set ?_ GE144.out | refine below_set ?_ GE161.out) | exact HB.out)⟩
              ·
               rw [if_neg c120] at H
               have c120b0 : (a1_0 == 6) = false := beq_eq_false_iff_ne.mpr c120
               have c120b1 : (a1_0 != 6) = true := bne_iff_ne.mpr c120
               by_cases c128 : a1_0 = 8
               ·
                rw [if_pos c128] at H
                have c128b0 : (a1_0 == 8) = true := beq_iff_eq.mpr c128
                have c128b1 : (a1_0 != 8) = false := bne_eq_false_iff_eq.mpr c128
                clear c128
                simp only [Option.some.injEq, Prod.mk.injEq] at H
                obtain ⟨rfl, rfl, rfl, rfl, rfl, rfl⟩ := H
                have hnb129 := NB161_142.out
                have hnc129 := NB142_161.out
                have hnb130 := NB161_143.out
                have hnc130 := NB143_161.out
                have hnb131 := NB161_144.out
                have hnc131 := NB144_161.out
                have hcz132_0 : wc.cell? ⟨gb161, 0, none⟩ = some (.int .i64 a0_0) := (blk_cell BK161.out 0).trans rfl
                have hcz132_1 : wc.cell? ⟨gb161, 1, none⟩ = some (.int .i64 a0_1) := (blk_cell BK161.out 1).trans rfl
                have hcz132_2 : wc.cell? ⟨gb161, 2, none⟩ = some (.slice Ao39 t146.length co39) := (blk_cell BK161.out 2).trans rfl
                have hcz132_3 : wc.cell? ⟨gb161, 3, none⟩ = some (.slice Ao38 t149.length co38) := (blk_cell BK161.out 3).trans rfl
                have hcz132_4 : wc.cell? ⟨gb161, 4, none⟩ = some (.slice Ao37 y158.length co37) := (blk_cell BK161.out 4).trans rfl
                have hfz132_0 := blk_frozen BK161.out 0
                have hfz132_1 := blk_frozen BK161.out 1
                have hfz132_2 := blk_frozen BK161.out 2
                have hfz132_3 := blk_frozen BK161.out 3
                have hfz132_4 := blk_frozen BK161.out 4
                have hnb133 := NB144_142.out
                have hnc133 := NB142_144.out
                have hnb134 := NB144_143.out
                have hnc134 := NB143_144.out
                have hcz135_0 : wc.cell? ⟨gb144, 0, none⟩ = some (.int .i64 0) := (blk_cell BK144.out 0).trans rfl
                have hcz135_1 : wc.cell? ⟨gb144, 1, none⟩ = some (.int .i64 0) := (blk_cell BK144.out 1).trans rfl
                have hcz135_2 : wc.cell? ⟨gb144, 2, none⟩ = some (.slice none 0 0) := (blk_cell BK144.out 2).trans rfl
                have hcz135_3 : wc.cell? ⟨gb144, 3, none⟩ = some (.slice none 0 0) := (blk_cell BK144.out 3).trans rfl
                have hcz135_4 : wc.cell? ⟨gb144, 4, none⟩ = some (.slice none 0 0) := (blk_cell BK144.out 4).trans rfl
                have hfz135_0 := blk_frozen BK144.out 0
                have hfz135_1 := blk_frozen BK144.out 1
                have hfz135_2 := blk_frozen BK144.out 2
                have hfz135_3 := blk_frozen BK144.out 3
                have hfz135_4 := blk_frozen BK144.out 4
                go_wp2
                refine bodyPost_ret (results_ct rfl _ _ gb144 25 #[.int .i64 7, .int .i64 a0_1, .slice Ao39 t146.length co39, .slice Ao38 t149.length co38, .slice Ao37 y158.length co37] (0, 0) _ rfl (by (with_reducible repeat (first | refine blk_drewN ?_ _ | refine blk_drew ?_ | refine blk_alloc ?_ _)); refine blk_put (cs := #[.int .i64 7, .int .i64 a0_1, .slice Ao39 t146.length co39, .slice Ao38 t149.length co38, .slice none 0 0]) ?_ 4 _ rfl; (with_reducible repeat (first | refine blk_drewN ?_ _ | refine blk_drew ?_ | refine blk_alloc ?_ _)); refine blk_put (cs := #[.int .i64 7, .int .i64 a0_1, .slice Ao39 t146.length co39, .slice none 0 0, .slice none 0 0]) ?_ 3 _ rfl; (with_reducible repeat (first | refine blk_drewN ?_ _ | refine blk_drew ?_ | refine blk_alloc ?_ _)); refine blk_put (cs := #[.int .i64 7, .int .i64 a0_1, .slice none 0 0, .slice none 0 0, .slice none 0 0]) ?_ 2 _ rfl; (with_reducible repeat (first | refine blk_drewN ?_ _ | refine blk_drew ?_ | refine blk_alloc ?_ _)); refine blk_put (cs := #[.int .i64 7, .int .i64 0, .slice none 0 0, .slice none 0 0, .slice none 0 0]) ?_ 1 _ rfl; (with_reducible repeat (first | refine blk_drewN ?_ _ | refine blk_drew ?_ | refine blk_alloc ?_ _)); refine blk_put (cs := #[.int .i64 0, .int .i64 0, .slice none 0 0, .slice none 0 0, .slice none 0 0]) ?_ 0 _ rfl; (with_reducible repeat (first | refine blk_drewN ?_ _ | refine blk_drew ?_ | refine blk_alloc ?_ _)); refine blk_far ?_ NB144_161.out _; (with_reducible repeat (first | refine blk_drewN ?_ _ | refine blk_drew ?_ | refine blk_alloc ?_ _)); exact BK144.out) Try.underlying25 rfl (by kernel_rfl)) rfl ?_
                exact ⟨_, _, _, by first | rfl | (simp [errW_none, errW_some] <;> rfl) | (simp [*, errW_none, errW_some] <;> rfl), by (with_reducible repeat (first | apply Kd.R_alloc | apply Kd.R_drewN | apply Kd.R_drew)); exact Kd.R_mono (Kd.R_far (p := ⟨gb144, 4, none⟩) (Kd.R_far (p := ⟨gb144, 3, none⟩) (Kd.R_far (p := ⟨gb144, 2, none⟩) (Kd.R_far (p := ⟨gb144, 1, none⟩) (Kd.R_far (p := ⟨gb144, 0, none⟩) (Kd.R_far (p := ⟨gb161, 0, none⟩) (Kd.R_types (Kd.R_types HO_162002.out BK161.out (by decide)) BK144.out (by decide)) (fun _ hk => hk.1.2) (.int .i64 7)) (fun _ hk => hk.2) (.int .i64 7)) (fun _ hk => hk.2) (.int .i64 a0_1)) (fun _ hk => hk.2) (.slice Ao39 t146.length co39)) (fun _ hk => hk.2) (.slice Ao38 t149.length co38)) (fun _ hk => hk.2) (.slice Ao37 y158.length co37)) (fun _ hk => hk.1.1), by (with_reducible repeat (first | apply Kd.R_alloc | apply Kd.R_drewN | apply Kd.R_drew)); exact Kd.R_mono (Kd.R_far (p := ⟨gb144, 4, none⟩) (Kd.R_far (p := ⟨gb144, 3, none⟩) (Kd.R_far (p := ⟨gb144, 2, none⟩) (Kd.R_far (p := ⟨gb144, 1, none⟩) (Kd.R_far (p := ⟨gb144, 0, none⟩) (Kd.R_far (p := ⟨gb161, 0, none⟩) (Kd.R_types (Kd.R_types HO_162003.out BK161.out (by decide)) BK144.out (by decide)) (fun _ hk => hk.1.2) (.int .i64 7)) (fun _ hk => hk.2) (.int .i64 7)) (fun _ hk => hk.2) (.int .i64 a0_1)) (fun _ hk => hk.2) (.slice Ao39 t146.length co39)) (fun _ hk => hk.2) (.slice Ao38 t149.length co38)) (fun _ hk => hk.2) (.slice Ao37 y158.length co37)) (fun _ hk => hk.1.1), by (with_reducible repeat (first | apply Kd.R_alloc | apply Kd.R_drewN | apply Kd.R_drew)); exact Kd.R_mono (Kd.R_far (p := ⟨gb144, 4, none⟩) (Kd.R_far (p := ⟨gb144, 3, none⟩) (Kd.R_far (p := ⟨gb144, 2, none⟩) (Kd.R_far (p := ⟨gb144, 1, none⟩) (Kd.R_far (p := ⟨gb144, 0, none⟩) (Kd.R_far (p := ⟨gb161, 0, none⟩) (Kd.R_types (Kd.R_types HO_162004.out BK161.out (by decide)) BK144.out (by decide)) (fun _ hk => hk.1.2) (.int .i64 7)) (fun _ hk => hk.2) (.int .i64 7)) (fun _ hk => hk.2) (.int .i64 a0_1)) (fun _ hk => hk.2) (.slice Ao39 t146.length co39)) (fun _ hk => hk.2) (.slice Ao38 t149.length co38)) (fun _ hk => hk.2) (.slice Ao37 y158.length co37)) (fun _ hk => trivial), by repeat (first | (with_reducible first | exact HB.out | apply below_alloc | apply pw_below_drewN | apply below_drew1 | refine below_set ?_ GE142.out | refine below_set ?_ GE143.out | refine below_set ?_ GE144.out | refine below_set ?_ GE161.out) | exact HB.out)⟩
               ·
                rw [if_neg c128] at H
                have c128b0 : (a1_0 == 8) = false := beq_eq_false_iff_ne.mpr c128
                have c128b1 : (a1_0 != 8) = true := bne_iff_ne.mpr c128
                simp only [Option.some.injEq, Prod.mk.injEq] at H
                obtain ⟨rfl, rfl, rfl, rfl, rfl, rfl⟩ := H
                have hnb136 := NB161_142.out
                have hnc136 := NB142_161.out
                have hnb137 := NB161_143.out
                have hnc137 := NB143_161.out
                have hnb138 := NB161_144.out
                have hnc138 := NB144_161.out
                have hcz139_0 : wc.cell? ⟨gb161, 0, none⟩ = some (.int .i64 a0_0) := (blk_cell BK161.out 0).trans rfl
                have hcz139_1 : wc.cell? ⟨gb161, 1, none⟩ = some (.int .i64 a0_1) := (blk_cell BK161.out 1).trans rfl
                have hcz139_2 : wc.cell? ⟨gb161, 2, none⟩ = some (.slice Ao39 t146.length co39) := (blk_cell BK161.out 2).trans rfl
                have hcz139_3 : wc.cell? ⟨gb161, 3, none⟩ = some (.slice Ao38 t149.length co38) := (blk_cell BK161.out 3).trans rfl
                have hcz139_4 : wc.cell? ⟨gb161, 4, none⟩ = some (.slice Ao37 y158.length co37) := (blk_cell BK161.out 4).trans rfl
                have hfz139_0 := blk_frozen BK161.out 0
                have hfz139_1 := blk_frozen BK161.out 1
                have hfz139_2 := blk_frozen BK161.out 2
                have hfz139_3 := blk_frozen BK161.out 3
                have hfz139_4 := blk_frozen BK161.out 4
                have hnb140 := NB144_142.out
                have hnc140 := NB142_144.out
                have hnb141 := NB144_143.out
                have hnc141 := NB143_144.out
                have hcz142_0 : wc.cell? ⟨gb144, 0, none⟩ = some (.int .i64 0) := (blk_cell BK144.out 0).trans rfl
                have hcz142_1 : wc.cell? ⟨gb144, 1, none⟩ = some (.int .i64 0) := (blk_cell BK144.out 1).trans rfl
                have hcz142_2 : wc.cell? ⟨gb144, 2, none⟩ = some (.slice none 0 0) := (blk_cell BK144.out 2).trans rfl
                have hcz142_3 : wc.cell? ⟨gb144, 3, none⟩ = some (.slice none 0 0) := (blk_cell BK144.out 3).trans rfl
                have hcz142_4 : wc.cell? ⟨gb144, 4, none⟩ = some (.slice none 0 0) := (blk_cell BK144.out 4).trans rfl
                have hfz142_0 := blk_frozen BK144.out 0
                have hfz142_1 := blk_frozen BK144.out 1
                have hfz142_2 := blk_frozen BK144.out 2
                have hfz142_3 := blk_frozen BK144.out 3
                have hfz142_4 := blk_frozen BK144.out 4
                go_wp2
                refine bodyPost_ret (results_ct rfl _ _ gb144 25 #[.int .i64 a0_0, .int .i64 a0_1, .slice Ao39 t146.length co39, .slice Ao38 t149.length co38, .slice Ao37 y158.length co37] (0, 0) _ rfl (by (with_reducible repeat (first | refine blk_drewN ?_ _ | refine blk_drew ?_ | refine blk_alloc ?_ _)); refine blk_put (cs := #[.int .i64 a0_0, .int .i64 a0_1, .slice Ao39 t146.length co39, .slice Ao38 t149.length co38, .slice none 0 0]) ?_ 4 _ rfl; (with_reducible repeat (first | refine blk_drewN ?_ _ | refine blk_drew ?_ | refine blk_alloc ?_ _)); refine blk_put (cs := #[.int .i64 a0_0, .int .i64 a0_1, .slice Ao39 t146.length co39, .slice none 0 0, .slice none 0 0]) ?_ 3 _ rfl; (with_reducible repeat (first | refine blk_drewN ?_ _ | refine blk_drew ?_ | refine blk_alloc ?_ _)); refine blk_put (cs := #[.int .i64 a0_0, .int .i64 a0_1, .slice none 0 0, .slice none 0 0, .slice none 0 0]) ?_ 2 _ rfl; (with_reducible repeat (first | refine blk_drewN ?_ _ | refine blk_drew ?_ | refine blk_alloc ?_ _)); refine blk_put (cs := #[.int .i64 a0_0, .int .i64 0, .slice none 0 0, .slice none 0 0, .slice none 0 0]) ?_ 1 _ rfl; (with_reducible repeat (first | refine blk_drewN ?_ _ | refine blk_drew ?_ | refine blk_alloc ?_ _)); refine blk_put (cs := #[.int .i64 0, .int .i64 0, .slice none 0 0, .slice none 0 0, .slice none 0 0]) ?_ 0 _ rfl; (with_reducible repeat (first | refine blk_drewN ?_ _ | refine blk_drew ?_ | refine blk_alloc ?_ _)); exact BK144.out) Try.underlying25 rfl (by kernel_rfl)) rfl ?_
                exact ⟨_, _, _, by first | rfl | (simp [errW_none, errW_some] <;> rfl) | (simp [*, errW_none, errW_some] <;> rfl), by (with_reducible repeat (first | apply Kd.R_alloc | apply Kd.R_drewN | apply Kd.R_drew)); exact Kd.R_mono (Kd.R_far (p := ⟨gb144, 4, none⟩) (Kd.R_far (p := ⟨gb144, 3, none⟩) (Kd.R_far (p := ⟨gb144, 2, none⟩) (Kd.R_far (p := ⟨gb144, 1, none⟩) (Kd.R_far (p := ⟨gb144, 0, none⟩) (Kd.R_types HO_162002.out BK144.out (by decide)) (fun _ hk => hk.2) (.int .i64 a0_0)) (fun _ hk => hk.2) (.int .i64 a0_1)) (fun _ hk => hk.2) (.slice Ao39 t146.length co39)) (fun _ hk => hk.2) (.slice Ao38 t149.length co38)) (fun _ hk => hk.2) (.slice Ao37 y158.length co37)) (fun _ hk => hk.1), by (with_reducible repeat (first | apply Kd.R_alloc | apply Kd.R_drewN | apply Kd.R_drew)); exact Kd.R_mono (Kd.R_far (p := ⟨gb144, 4, none⟩) (Kd.R_far (p := ⟨gb144, 3, none⟩) (Kd.R_far (p := ⟨gb144, 2, none⟩) (Kd.R_far (p := ⟨gb144, 1, none⟩) (Kd.R_far (p := ⟨gb144, 0, none⟩) (Kd.R_types HO_162003.out BK144.out (by decide)) (fun _ hk => hk.2) (.int .i64 a0_0)) (fun _ hk => hk.2) (.int .i64 a0_1)) (fun _ hk => hk.2) (.slice Ao39 t146.length co39)) (fun _ hk => hk.2) (.slice Ao38 t149.length co38)) (fun _ hk => hk.2) (.slice Ao37 y158.length co37)) (fun _ hk => hk.1), by (with_reducible repeat (first | apply Kd.R_alloc | apply Kd.R_drewN | apply Kd.R_drew)); exact Kd.R_mono (Kd.R_far (p := ⟨gb144, 4, none⟩) (Kd.R_far (p := ⟨gb144, 3, none⟩) (Kd.R_far (p := ⟨gb144, 2, none⟩) (Kd.R_far (p := ⟨gb144, 1, none⟩) (Kd.R_far (p := ⟨gb144, 0, none⟩) (Kd.R_types HO_162004.out BK144.out (by decide)) (fun _ hk => hk.2) (.int .i64 a0_0)) (fun _ hk => hk.2) (.int .i64 a0_1)) (fun _ hk => hk.2) (.slice Ao39 t146.length co39)) (fun _ hk => hk.2) (.slice Ao38 t149.length co38)) (fun _ hk => hk.2) (.slice Ao37 y158.length co37)) (fun _ hk => trivial), by repeat (first | (with_reducible first | exact HB.out | apply below_alloc | apply pw_below_drewN | apply below_drew1 | refine below_set ?_ GE142.out | refine below_set ?_ GE143.out | refine below_set ?_ GE144.out | refine below_set ?_ GE161.out) | exact HB.out)⟩
  ·
   rw [if_neg c8] at H
   exact absurd H (by simp)
 ·
  rw [if_neg c4] at H
  have c4b0 : (t145 == 0) = false := beq_eq_false_iff_ne.mpr c4
  have c4b1 : (t145 != 0) = true := bne_iff_ne.mpr c4
  simp only [Option.some.injEq, Prod.mk.injEq] at H
  obtain ⟨rfl, rfl, rfl, rfl, rfl, rfl⟩ := H
  go_enter Try.func13, Try.ntmps13
  go_wp2_with (first | ((with_reducible refine gate_dst (N := 2) rfl ?_); refine box_event ?hg (N := 2) ?hd (cs := #[.int .i64 a0_0, .int .i64 a0_1, .slice A0_2 l0_2.length c0_2, .slice A0_3 l0_3.length c0_3, .slice A0_4 l0_4.length c0_4]) (t := 25) ?hr ?_; (case hd => rfl); (case hg => rfl); (case hr => first | (go_simp; done) | (go_simp; rfl)); intro gb142 hg w143 hbox hb; have n0_ := Aside0.mk (below_step (by repeat (first | (with_reducible first | exact HB.out | apply below_alloc | apply pw_below_drewN | apply below_drew1) | exact HB.out)) hb); have n1_ := Aside0.mk (hbox); have n2_ := Aside0.mk ((by rw [hg]; exact (below_size (by repeat (first | (with_reducible first | exact HB.out | apply below_alloc | apply pw_below_drewN | apply below_drew1) | exact HB.out))) : w.heap.size ≤ gb142)); have n3_ := Aside0.mk ((by rw [hg]; exact (below_size (by repeat (first | (with_reducible first | exact HB.out | apply below_alloc | apply pw_below_drewN | apply below_drew1) | exact HB.out))) : w.heap.size ≤ gb142)); clear HB; have HB := n0_; have BK142 := n1_; have GW142 := n2_; have GE142 := n3_; clear n0_ n1_ n2_ n3_; clear hb hbox hg) | ((with_reducible refine gate_dst (N := 3) rfl ?_); refine box_event ?hg (N := 3) ?hd (cs := #[.int .i64 a1_0, .int .i64 a1_1, .int .i64 a1_2, .int .i64 a1_3]) (t := 34) ?hr ?_; (case hd => rfl); (case hg => rfl); (case hr => first | (go_simp; done) | (go_simp; rfl)); intro gb143 hg w144 hbox hb; have n0_ := Aside0.mk (blk_below (g := gb142) (o := .cells #[.int .i64 a0_0, .int .i64 a0_1, .slice A0_2 l0_2.length c0_2, .slice A0_3 l0_3.length c0_3, .slice A0_4 l0_4.length c0_4] 25 (0, 0)) (by (with_reducible repeat (first | refine blk_drewN ?_ _ | refine blk_drew ?_ | refine blk_alloc ?_ _)); exact BK142.out) hb); have n1_ := Aside0.mk (below_step (by repeat (first | (with_reducible first | exact HB.out | apply below_alloc | apply pw_below_drewN | apply below_drew1 | refine below_set ?_ GE142.out) | exact HB.out)) hb); have n2_ := Aside0.mk (hbox); have n3_ := Aside0.mk ((by rw [hg]; exact (below_size (by repeat (first | (with_reducible first | exact HB.out | apply below_alloc | apply pw_below_drewN | apply below_drew1 | refine below_set ?_ GE142.out) | exact HB.out))) : w.heap.size ≤ gb143)); have n4_ := Aside0.mk ((by rw [hg]; exact (below_size (by repeat (first | (with_reducible first | exact HB.out | apply below_alloc | apply pw_below_drewN | apply below_drew1 | refine below_set ?_ GE142.out) | exact HB.out))) : w.heap.size ≤ gb143)); have n5_ := Aside0.mk ((by rw [hg]; exact Nat.ne_of_lt (blk_lt (g := gb142) (o := .cells #[.int .i64 a0_0, .int .i64 a0_1, .slice A0_2 l0_2.length c0_2, .slice A0_3 l0_3.length c0_3, .slice A0_4 l0_4.length c0_4] 25 (0, 0)) (by (with_reducible repeat (first | refine blk_drewN ?_ _ | refine blk_drew ?_ | refine blk_alloc ?_ _)); exact BK142.out)) : gb142 ≠ gb143)); have n6_ := Aside0.mk ((by rw [hg]; exact Nat.ne_of_gt (blk_lt (g := gb142) (o := .cells #[.int .i64 a0_0, .int .i64 a0_1, .slice A0_2 l0_2.length c0_2, .slice A0_3 l0_3.length c0_3, .slice A0_4 l0_4.length c0_4] 25 (0, 0)) (by (with_reducible repeat (first | refine blk_drewN ?_ _ | refine blk_drew ?_ | refine blk_alloc ?_ _)); exact BK142.out)) : gb143 ≠ gb142)); clear BK142; clear HB; have BK142 := n0_; have HB := n1_; have BK143 := n2_; have GW143 := n3_; have GE143 := n4_; have NB142_143 := n5_; have NB143_142 := n6_; clear n0_ n1_ n2_ n3_ n4_ n5_ n6_; clear hb hbox hg) | ((with_reducible refine gate_dst (N := 4) rfl ?_); refine box_event ?hg (N := 4) ?hd (cs := #[.int .i64 0, .int .i64 0, .slice none 0 0, .slice none 0 0, .slice none 0 0]) (t := 25) ?hr ?_; (case hd => rfl); (case hg => rfl); (case hr => first | (go_simp; done) | (go_simp; rfl)); intro gb144 hg w145 hbox hb; have n0_ := Aside0.mk (blk_below (g := gb142) (o := .cells #[.int .i64 a0_0, .int .i64 a0_1, .slice A0_2 l0_2.length c0_2, .slice A0_3 l0_3.length c0_3, .slice A0_4 l0_4.length c0_4] 25 (0, 0)) (by (with_reducible repeat (first | refine blk_drewN ?_ _ | refine blk_drew ?_ | refine blk_alloc ?_ _)); exact BK142.out) hb); have n1_ := Aside0.mk (blk_below (g := gb143) (o := .cells #[.int .i64 a1_0, .int .i64 a1_1, .int .i64 a1_2, .int .i64 a1_3] 34 (0, 0)) (by (with_reducible repeat (first | refine blk_drewN ?_ _ | refine blk_drew ?_ | refine blk_alloc ?_ _)); exact BK143.out) hb); have n2_ := Aside0.mk (below_step (by repeat (first | (with_reducible first | exact HB.out | apply below_alloc | apply pw_below_drewN | apply below_drew1 | refine below_set ?_ GE142.out | refine below_set ?_ GE143.out) | exact HB.out)) hb); have n3_ := Aside0.mk (hbox); have n4_ := Aside0.mk ((by rw [hg]; exact (below_size (by repeat (first | (with_reducible first | exact HB.out | apply below_alloc | apply pw_below_drewN | apply below_drew1 | refine below_set ?_ GE142.out | refine below_set ?_ GE143.out) | exact HB.out))) : w.heap.size ≤ gb144)); have n5_ := Aside0.mk ((by rw [hg]; exact (below_size (by repeat (first | (with_reducible first | exact HB.out | apply below_alloc | apply pw_below_drewN | apply below_drew1 | refine below_set ?_ GE142.out | refine below_set ?_ GE143.out) | exact HB.out))) : w.heap.size ≤ gb144)); have n6_ := Aside0.mk ((by rw [hg]; exact Nat.ne_of_lt (blk_lt (g := gb142) (o := .cells #[.int .i64 a0_0, .int .i64 a0_1, .slice A0_2 l0_2.length c0_2, .slice A0_3 l0_3.length c0_3, .slice A0_4 l0_4.length c0_4] 25 (0, 0)) (by (with_reducible repeat (first | refine blk_drewN ?_ _ | refine blk_drew ?_ | refine blk_alloc ?_ _)); exact BK142.out)) : gb142 ≠ gb144)); have n7_ := Aside0.mk ((by rw [hg]; exact Nat.ne_of_gt (blk_lt (g := gb142) (o := .cells #[.int .i64 a0_0, .int .i64 a0_1, .slice A0_2 l0_2.length c0_2, .slice A0_3 l0_3.length c0_3, .slice A0_4 l0_4.length c0_4] 25 (0, 0)) (by (with_reducible repeat (first | refine blk_drewN ?_ _ | refine blk_drew ?_ | refine blk_alloc ?_ _)); exact BK142.out)) : gb144 ≠ gb142)); have n8_ := Aside0.mk ((by rw [hg]; exact Nat.ne_of_lt (blk_lt (g := gb143) (o := .cells #[.int .i64 a1_0, .int .i64 a1_1, .int .i64 a1_2, .int .i64 a1_3] 34 (0, 0)) (by (with_reducible repeat (first | refine blk_drewN ?_ _ | refine blk_drew ?_ | refine blk_alloc ?_ _)); exact BK143.out)) : gb143 ≠ gb144)); have n9_ := Aside0.mk ((by rw [hg]; exact Nat.ne_of_gt (blk_lt (g := gb143) (o := .cells #[.int .i64 a1_0, .int .i64 a1_1, .int .i64 a1_2, .int .i64 a1_3] 34 (0, 0)) (by (with_reducible repeat (first | refine blk_drewN ?_ _ | refine blk_drew ?_ | refine blk_alloc ?_ _)); exact BK143.out)) : gb144 ≠ gb143)); clear BK142; clear BK143; clear HB; have BK142 := n0_; have BK143 := n1_; have HB := n2_; have BK144 := n3_; have GW144 := n4_; have GE144 := n5_; have NB142_144 := n6_; have NB144_142 := n7_; have NB143_144 := n8_; have NB144_143 := n9_; clear n0_ n1_ n2_ n3_ n4_ n5_ n6_ n7_ n8_ n9_; clear hb hbox hg; have hnb146 := NB142_143.out; have hnc146 := NB143_142.out; have hnb147 := NB142_144.out; have hnc147 := NB144_142.out; have hcz148_0 : w145.cell? ⟨gb142, 0, none⟩ = some (.int .i64 a0_0) := (blk_cell BK142.out 0).trans rfl; have hcz148_1 : w145.cell? ⟨gb142, 1, none⟩ = some (.int .i64 a0_1) := (blk_cell BK142.out 1).trans rfl; have hcz148_2 : w145.cell? ⟨gb142, 2, none⟩ = some (.slice A0_2 l0_2.length c0_2) := (blk_cell BK142.out 2).trans rfl; have hcz148_3 : w145.cell? ⟨gb142, 3, none⟩ = some (.slice A0_3 l0_3.length c0_3) := (blk_cell BK142.out 3).trans rfl; have hcz148_4 : w145.cell? ⟨gb142, 4, none⟩ = some (.slice A0_4 l0_4.length c0_4) := (blk_cell BK142.out 4).trans rfl; have hfz148_0 := blk_frozen BK142.out 0; have hfz148_1 := blk_frozen BK142.out 1; have hfz148_2 := blk_frozen BK142.out 2; have hfz148_3 := blk_frozen BK142.out 3; have hfz148_4 := blk_frozen BK142.out 4; have hnb149 := NB143_144.out; have hnc149 := NB144_143.out; have hcz150_0 : w145.cell? ⟨gb143, 0, none⟩ = some (.int .i64 a1_0) := (blk_cell BK143.out 0).trans rfl; have hcz150_1 : w145.cell? ⟨gb143, 1, none⟩ = some (.int .i64 a1_1) := (blk_cell BK143.out 1).trans rfl; have hcz150_2 : w145.cell? ⟨gb143, 2, none⟩ = some (.int .i64 a1_2) := (blk_cell BK143.out 2).trans rfl; have hcz150_3 : w145.cell? ⟨gb143, 3, none⟩ = some (.int .i64 a1_3) := (blk_cell BK143.out 3).trans rfl; have hfz150_0 := blk_frozen BK143.out 0; have hfz150_1 := blk_frozen BK143.out 1; have hfz150_2 := blk_frozen BK143.out 2; have hfz150_3 := blk_frozen BK143.out 3) | ((with_reducible refine gate_callee (f := 18) rfl ?_); refine goesL_ (some 10) rfl rfl Try.func18 (by kernel_rfl) rfl #[.agg #[.int .i64 a0_0, .int .i64 a0_1, .slice A0_2 l0_2.length c0_2, .slice A0_3 l0_3.length c0_3, .slice A0_4 l0_4.length c0_4], .agg #[.int .i64 a1_0, .int .i64 a1_1, .int .i64 a1_2, .int .i64 a1_3]] rfl (by (try simp only [List.map_toArray, List.map_cons, List.map_nil]); first | done | rfl | (simp only [List.length_drop, List.length_take]; rfl)) ?_; (with_reducible refine (review_Allowed.calls k a0_0 a0_1 _ _ l0_2 _ _ l0_3 _ _ l0_4 a1_0 a1_1 a1_2 a1_3 t145 _ ?side1 ?side2 ?side3 ?side4 ?side5 ?side6 A3.out).mono ?_); (case side1 => repeat (first | exact (Kd.C_below HR0_2.out HB.out) | (with_reducible refine Kd.C_alloc ?_ _) | (with_reducible refine Kd.C_drewN ?_ _) | (with_reducible refine Kd.C_drew ?_))); (case side2 => exact HC0_2.out); (case side3 => repeat (first | exact (Kd.C_below HR0_3.out HB.out) | (with_reducible refine Kd.C_alloc ?_ _) | (with_reducible refine Kd.C_drewN ?_ _) | (with_reducible refine Kd.C_drew ?_))); (case side4 => exact HC0_3.out); (case side5 => repeat (first | exact (Kd.C_below HR0_4.out HB.out) | (with_reducible refine Kd.C_alloc ?_ _) | (with_reducible refine Kd.C_drewN ?_ _) | (with_reducible refine Kd.C_drew ?_))); (case side6 => exact HC0_4.out); rintro e w151 ⟨rfl, hb⟩; refine ⟨_, rfl, ?_⟩; have n0_ := Aside0.mk (blk_below (g := gb142) (o := .cells #[.int .i64 a0_0, .int .i64 a0_1, .slice A0_2 l0_2.length c0_2, .slice A0_3 l0_3.length c0_3, .slice A0_4 l0_4.length c0_4] 25 (0, 0)) (by (with_reducible repeat (first | refine blk_drewN ?_ _ | refine blk_drew ?_ | refine blk_alloc ?_ _)); exact BK142.out) hb); have n1_ := Aside0.mk (blk_below (g := gb143) (o := .cells #[.int .i64 a1_0, .int .i64 a1_1, .int .i64 a1_2, .int .i64 a1_3] 34 (0, 0)) (by (with_reducible repeat (first | refine blk_drewN ?_ _ | refine blk_drew ?_ | refine blk_alloc ?_ _)); exact BK143.out) hb); have n2_ := Aside0.mk (blk_below (g := gb144) (o := .cells #[.int .i64 0, .int .i64 0, .slice none 0 0, .slice none 0 0, .slice none 0 0] 25 (0, 0)) (by (with_reducible repeat (first | refine blk_drewN ?_ _ | refine blk_drew ?_ | refine blk_alloc ?_ _)); exact BK144.out) hb); have n3_ := Aside0.mk (below_step (by repeat (first | (with_reducible first | exact HB.out | apply below_alloc | apply pw_below_drewN | apply below_drew1 | refine below_set ?_ GE142.out | refine below_set ?_ GE143.out | refine below_set ?_ GE144.out) | exact HB.out)) hb); clear BK142; clear BK143; clear BK144; clear HB; have BK142 := n0_; have BK143 := n1_; have BK144 := n2_; have HB := n3_; clear n0_ n1_ n2_ n3_; (try clear hb); (try clear hb2); (try clear hk); (try clear hi); have hcz152_0 : w151.cell? ⟨gb144, 0, none⟩ = some (.int .i64 0) := (blk_cell BK144.out 0).trans rfl; have hcz152_1 : w151.cell? ⟨gb144, 1, none⟩ = some (.int .i64 0) := (blk_cell BK144.out 1).trans rfl; have hcz152_2 : w151.cell? ⟨gb144, 2, none⟩ = some (.slice none 0 0) := (blk_cell BK144.out 2).trans rfl; have hcz152_3 : w151.cell? ⟨gb144, 3, none⟩ = some (.slice none 0 0) := (blk_cell BK144.out 3).trans rfl; have hcz152_4 : w151.cell? ⟨gb144, 4, none⟩ = some (.slice none 0 0) := (blk_cell BK144.out 4).trans rfl; have hfz152_0 := blk_frozen BK144.out 0; have hfz152_1 := blk_frozen BK144.out 1; have hfz152_2 := blk_frozen BK144.out 2; have hfz152_3 := blk_frozen BK144.out 3; have hfz152_4 := blk_frozen BK144.out 4))
  refine bodyPost_ret (results_ct rfl _ _ gb144 25 #[.int .i64 0, .int .i64 0, .slice none 0 0, .slice none 0 0, .slice none 0 0] (0, 0) _ rfl (by (with_reducible repeat (first | refine blk_drewN ?_ _ | refine blk_drew ?_ | refine blk_alloc ?_ _)); refine blk_put (cs := #[.int .i64 0, .int .i64 0, .slice none 0 0, .slice none 0 0, .slice none 0 0]) ?_ 4 _ rfl; (with_reducible repeat (first | refine blk_drewN ?_ _ | refine blk_drew ?_ | refine blk_alloc ?_ _)); refine blk_put (cs := #[.int .i64 0, .int .i64 0, .slice none 0 0, .slice none 0 0, .slice none 0 0]) ?_ 3 _ rfl; (with_reducible repeat (first | refine blk_drewN ?_ _ | refine blk_drew ?_ | refine blk_alloc ?_ _)); refine blk_put (cs := #[.int .i64 0, .int .i64 0, .slice none 0 0, .slice none 0 0, .slice none 0 0]) ?_ 2 _ rfl; (with_reducible repeat (first | refine blk_drewN ?_ _ | refine blk_drew ?_ | refine blk_alloc ?_ _)); refine blk_put (cs := #[.int .i64 0, .int .i64 0, .slice none 0 0, .slice none 0 0, .slice none 0 0]) ?_ 1 _ rfl; (with_reducible repeat (first | refine blk_drewN ?_ _ | refine blk_drew ?_ | refine blk_alloc ?_ _)); refine blk_put (cs := #[.int .i64 0, .int .i64 0, .slice none 0 0, .slice none 0 0, .slice none 0 0]) ?_ 0 _ rfl; (with_reducible repeat (first | refine blk_drewN ?_ _ | refine blk_drew ?_ | refine blk_alloc ?_ _)); exact BK144.out) Try.underlying25 rfl (by kernel_rfl)) rfl ?_
  exact ⟨_, _, _, by first | rfl | (simp [errW_none, errW_some] <;> rfl) | (simp [*, errW_none, errW_some] <;> rfl), by first | exact Kd.R_nil _ _ _ _ _ | exact Kd.N_nil _ _ _ _ _ | exact Kd.V_nil _ _ _ _ _ | exact Kd.Q_nil _ _ _ _ _ | exact Kd.S_nil _ _ _ _ _, by first | exact Kd.R_nil _ _ _ _ _ | exact Kd.N_nil _ _ _ _ _ | exact Kd.V_nil _ _ _ _ _ | exact Kd.Q_nil _ _ _ _ _ | exact Kd.S_nil _ _ _ _ _, by first | exact Kd.R_nil _ _ _ _ _ | exact Kd.N_nil _ _ _ _ _ | exact Kd.V_nil _ _ _ _ _ | exact Kd.Q_nil _ _ _ _ _ | exact Kd.S_nil _ _ _ _ _, by repeat (first | (with_reducible first | exact HB.out | apply below_alloc | apply pw_below_drewN | apply below_drew1 | refine below_set ?_ GE142.out | refine below_set ?_ GE143.out | refine below_set ?_ GE144.out) | exact HB.out)⟩

end Go.Proofs.Ytokmnbdnligcaaa.All
