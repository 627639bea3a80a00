-- Written by myprint.py for this claim: functions of the program as Lean functions, with the proofs that the calls come to them.
import Derived.Test.YtokmnbdnligcaaaAllx0
import Derived.Test.YtokmnbdnligcaaaAllx8
import Derived.Test.YtokmnbdnligcaaaAllx19
import Derived.Test.YtokmnbdnligcaaaAllx20
namespace Go.Proofs.Ytokmnbdnligcaaa.All
open Go.RowKit Go.Proofs.YtokmnbdnligcaaaW.PrintWords Go.Proofs.YtokmnbdnligcaaaW.PrintLast Go.Proofs.YtokmnbdnligcaaaW.PrintMore
attribute [local go_sem] max2_int min2_int max_two min_two max_three min_three max_four min_four   -- for this text's walks alone
set_option linter.unusedVariables false
set_option linter.unusedSimpArgs false

/-! ### examboardlaw15_perform: function 11 -/
mutual
def examboardlaw15_perform.j0 : Nat → List (S34) → Bool → Int → Int → List Int → List Int → List (S34) → Option (Int × Int × List Int × List Int × (List (S34)) × Bool)
 | 0, _, _, _, _, _, _, _ => none
 | k + 1, x1, x28, x190000, x190001, x190002, x190003, x190004 => if x28 = true then (some (x190000, x190001, x190002, x190003, x190004, false)) else (examboardlaw15_perform.l0 k x1 0 x190000 x190001 x190002 x190003 x190004)
def examboardlaw15_perform.l0 : Nat → List (S34) → Int → Int → Int → List Int → List Int → List (S34) → Option (Int × Int × List Int × List Int × (List (S34)) × Bool)
 | 0, _, _, _, _, _, _, _ => none
 | k + 1, x1, x8, x190000, x190001, x190002, x190003, x190004 => if x8 < (x1.length : Int) then (examboardlaw15_perform.j2 k x1 x8 (decide (x8 < 300)) x190000 x190001 x190002 x190003 x190004) else (examboardlaw15_perform.j2 k x1 x8 false x190000 x190001 x190002 x190003 x190004)
def examboardlaw15_perform.j2 : Nat → List (S34) → Int → Bool → Int → Int → List Int → List Int → List (S34) → Option (Int × Int × List Int × List Int × (List (S34)) × Bool)
 | 0, _, _, _, _, _, _, _, _ => none
 | k + 1, x1, x8, x37, x190000, x190001, x190002, x190003, x190004 => if x37 = true then (if 0 ≤ x8 then (if x8 < (x1.length : Int) then ((review_Apply.f k x190000 x190001 x190002 x190003 x190004 ((rd_T34 x1 x8).f0) ((rd_T34 x1 x8).f1) ((rd_T34 x1 x8).f2) ((rd_T34 x1 x8).f3)).bind fun bt191 => ((review_Allowed.f k x190000 x190001 x190002 x190003 x190004 ((rd_T34 x1 x8).f0) ((rd_T34 x1 x8).f1) ((rd_T34 x1 x8).f2) ((rd_T34 x1 x8).f3)).bind fun t205 => (examboardlaw15_perform.j3 k x1 x8 bt191.2.2.2.2.2 ((bt191.2.2.2.2.2 == 0) != (t205 == 0)) x190000 x190001 x190002 x190003 x190004 bt191.1 bt191.2.1 bt191.2.2.1 bt191.2.2.2.1 bt191.2.2.2.2.1))) else (none)) else (none)) else (some (x190000, x190001, x190002, x190003, x190004, true))
def examboardlaw15_perform.j3 : Nat → List (S34) → Int → Int → Bool → Int → Int → List Int → List Int → List (S34) → Int → Int → List Int → List Int → List (S34) → Option (Int × Int × List Int × List Int × (List (S34)) × Bool)
 | 0, _, _, _, _, _, _, _, _, _, _, _, _, _, _ => none
 | k + 1, x1, x8, x10, x58, x190000, x190001, x190002, x190003, x190004, x204000, x204001, x204002, x204003, x204004 => if x58 = true then (some (x190000, x190001, x190002, x190003, x190004, false)) else (if x10 = 0 then (if (x204004.length : Int) = (wrap64 ((x190004.length : Int) + 1)) then (examboardlaw15_perform.l0 k x1 (wrap64 (x8 + 1)) x204000 x204001 x204002 x204003 x204004) else (some (x190000, x190001, x190002, x190003, x190004, false))) else (examboardlaw15_perform.l0 k x1 (wrap64 (x8 + 1)) x190000 x190001 x190002 x190003 x190004))
end
def examboardlaw15_perform.f (k : Nat) (a0 : Int) (l1 : List (S34)) : Option (Int × Int × List Int × List Int × (List (S34)) × Bool) := (review_New.f a0).bind fun bt177 => (if bt177.2.2.2.2.2 = 0 then (if bt177.1 = 1 then (examboardlaw15_perform.j0 k l1 (bt177.2.1 != a0) bt177.1 bt177.2.1 bt177.2.2.1 bt177.2.2.2.1 bt177.2.2.2.2.1) else (examboardlaw15_perform.j0 k l1 true bt177.1 bt177.2.1 bt177.2.2.1 bt177.2.2.2.1 bt177.2.2.2.2.1)) else (examboardlaw15_perform.j0 k l1 true bt177.1 bt177.2.1 bt177.2.2.1 bt177.2.2.2.1 bt177.2.2.2.2.1))
theorem examboardlaw15_perform.mono_l : ∀ k, (∀ y0 y1 y2 y3 y4 y5 y6, LeO (examboardlaw15_perform.j0 k y0 y1 y2 y3 y4 y5 y6) (examboardlaw15_perform.j0 (k + 1) y0 y1 y2 y3 y4 y5 y6)) ∧ (∀ y0 y1 y2 y3 y4 y5 y6, LeO (examboardlaw15_perform.l0 k y0 y1 y2 y3 y4 y5 y6) (examboardlaw15_perform.l0 (k + 1) y0 y1 y2 y3 y4 y5 y6)) ∧ (∀ y0 y1 y2 y3 y4 y5 y6 y7, LeO (examboardlaw15_perform.j2 k y0 y1 y2 y3 y4 y5 y6 y7) (examboardlaw15_perform.j2 (k + 1) y0 y1 y2 y3 y4 y5 y6 y7)) ∧ (∀ y0 y1 y2 y3 y4 y5 y6 y7 y8 y9 y10 y11 y12 y13, LeO (examboardlaw15_perform.j3 k y0 y1 y2 y3 y4 y5 y6 y7 y8 y9 y10 y11 y12 y13) (examboardlaw15_perform.j3 (k + 1) y0 y1 y2 y3 y4 y5 y6 y7 y8 y9 y10 y11 y12 y13))
 | 0 => ⟨fun _ _ _ _ _ _ _ r h => by simp [examboardlaw15_perform.j0] at h, fun _ _ _ _ _ _ _ r h => by simp [examboardlaw15_perform.l0] at h, fun _ _ _ _ _ _ _ _ r h => by simp [examboardlaw15_perform.j2] at h, fun _ _ _ _ _ _ _ _ _ _ _ _ _ _ r h => by simp [examboardlaw15_perform.j3] at h⟩
 | k + 1 => by
  obtain ⟨ih0, ih1, ih2, ih3⟩ := examboardlaw15_perform.mono_l k
  refine ⟨?_, ?_, ?_, ?_⟩
  ·
   intro y0 y1 y2 y3 y4 y5 y6
   unfold examboardlaw15_perform.j0
   repeat' first
   | (with_reducible exact ih0 _ _ _ _ _ _ _)
   | (with_reducible exact ih1 _ _ _ _ _ _ _)
   | (with_reducible exact ih2 _ _ _ _ _ _ _ _)
   | (with_reducible exact ih3 _ _ _ _ _ _ _ _ _ _ _ _ _ _)
   | (with_reducible exact review_Allowed.mono _ _ _ _ _ _ _ _ _ _)
   | (with_reducible exact review_Apply.mono _ _ _ _ _ _ _ _ _ _)
   | (with_reducible exact LeO.refl _)
   | (with_reducible exact LeO.none _)
   | (with_reducible refine LeO.ite ?_ ?_)
   | (with_reducible refine LeO.bind ?_ (fun _ => ?_))
   | exact ih0 _ _ _ _ _ _ _
   | exact ih1 _ _ _ _ _ _ _
   | exact ih2 _ _ _ _ _ _ _ _
   | exact ih3 _ _ _ _ _ _ _ _ _ _ _ _ _ _
   | exact review_Allowed.mono _ _ _ _ _ _ _ _ _ _
   | exact review_Apply.mono _ _ _ _ _ _ _ _ _ _
   | exact LeO.none _
   | refine LeO.ite ?_ ?_
   | refine LeO.bind ?_ (fun _ => ?_)
  ·
   intro y0 y1 y2 y3 y4 y5 y6
   unfold examboardlaw15_perform.l0
   repeat' first
   | (with_reducible exact ih0 _ _ _ _ _ _ _)
   | (with_reducible exact ih1 _ _ _ _ _ _ _)
   | (with_reducible exact ih2 _ _ _ _ _ _ _ _)
   | (with_reducible exact ih3 _ _ _ _ _ _ _ _ _ _ _ _ _ _)
   | (with_reducible exact review_Allowed.mono _ _ _ _ _ _ _ _ _ _)
   | (with_reducible exact review_Apply.mono _ _ _ _ _ _ _ _ _ _)
   | (with_reducible exact LeO.refl _)
   | (with_reducible exact LeO.none _)
   | (with_reducible refine LeO.ite ?_ ?_)
   | (with_reducible refine LeO.bind ?_ (fun _ => ?_))
   | exact ih0 _ _ _ _ _ _ _
   | exact ih1 _ _ _ _ _ _ _
   | exact ih2 _ _ _ _ _ _ _ _
   | exact ih3 _ _ _ _ _ _ _ _ _ _ _ _ _ _
   | exact review_Allowed.mono _ _ _ _ _ _ _ _ _ _
   | exact review_Apply.mono _ _ _ _ _ _ _ _ _ _
   | exact LeO.none _
   | refine LeO.ite ?_ ?_
   | refine LeO.bind ?_ (fun _ => ?_)
  ·
   intro y0 y1 y2 y3 y4 y5 y6 y7
   unfold examboardlaw15_perform.j2
   repeat' first
   | (with_reducible exact ih0 _ _ _ _ _ _ _)
   | (with_reducible exact ih1 _ _ _ _ _ _ _)
   | (with_reducible exact ih2 _ _ _ _ _ _ _ _)
   | (with_reducible exact ih3 _ _ _ _ _ _ _ _ _ _ _ _ _ _)
   | (with_reducible exact review_Allowed.mono _ _ _ _ _ _ _ _ _ _)
   | (with_reducible exact review_Apply.mono _ _ _ _ _ _ _ _ _ _)
   | (with_reducible exact LeO.refl _)
   | (with_reducible exact LeO.none _)
   | (with_reducible refine LeO.ite ?_ ?_)
   | (with_reducible refine LeO.bind ?_ (fun _ => ?_))
   | exact ih0 _ _ _ _ _ _ _
   | exact ih1 _ _ _ _ _ _ _
   | exact ih2 _ _ _ _ _ _ _ _
   | exact ih3 _ _ _ _ _ _ _ _ _ _ _ _ _ _
   | exact review_Allowed.mono _ _ _ _ _ _ _ _ _ _
   | exact review_Apply.mono _ _ _ _ _ _ _ _ _ _
   | exact LeO.none _
   | refine LeO.ite ?_ ?_
   | refine LeO.bind ?_ (fun _ => ?_)
  ·
   intro y0 y1 y2 y3 y4 y5 y6 y7 y8 y9 y10 y11 y12 y13
   unfold examboardlaw15_perform.j3
   repeat' first
   | (with_reducible exact ih0 _ _ _ _ _ _ _)
   | (with_reducible exact ih1 _ _ _ _ _ _ _)
   | (with_reducible exact ih2 _ _ _ _ _ _ _ _)
   | (with_reducible exact ih3 _ _ _ _ _ _ _ _ _ _ _ _ _ _)
   | (with_reducible exact review_Allowed.mono _ _ _ _ _ _ _ _ _ _)
   | (with_reducible exact review_Apply.mono _ _ _ _ _ _ _ _ _ _)
   | (with_reducible exact LeO.refl _)
   | (with_reducible exact LeO.none _)
   | (with_reducible refine LeO.ite ?_ ?_)
   | (with_reducible refine LeO.bind ?_ (fun _ => ?_))
   | exact ih0 _ _ _ _ _ _ _
   | exact ih1 _ _ _ _ _ _ _
   | exact ih2 _ _ _ _ _ _ _ _
   | exact ih3 _ _ _ _ _ _ _ _ _ _ _ _ _ _
   | exact review_Allowed.mono _ _ _ _ _ _ _ _ _ _
   | exact review_Apply.mono _ _ _ _ _ _ _ _ _ _
   | exact LeO.none _
   | refine LeO.ite ?_ ?_
   | refine LeO.bind ?_ (fun _ => ?_)
theorem examboardlaw15_perform.mono : ∀ a0 a1 k, LeO (examboardlaw15_perform.f k a0 a1) (examboardlaw15_perform.f (k + 1) a0 a1) := by
 intro a0 a1 k
 obtain ⟨ih0, ih1, ih2, ih3⟩ := examboardlaw15_perform.mono_l k
 unfold examboardlaw15_perform.f
 repeat' first
   | (with_reducible exact ih0 _ _ _ _ _ _ _)
   | (with_reducible exact ih1 _ _ _ _ _ _ _)
   | (with_reducible exact ih2 _ _ _ _ _ _ _ _)
   | (with_reducible exact ih3 _ _ _ _ _ _ _ _ _ _ _ _ _ _)
   | (with_reducible exact review_Allowed.mono _ _ _ _ _ _ _ _ _ _)
   | (with_reducible exact review_Apply.mono _ _ _ _ _ _ _ _ _ _)
   | (with_reducible exact LeO.refl _)
   | (with_reducible exact LeO.none _)
   | (with_reducible refine LeO.ite ?_ ?_)
   | (with_reducible refine LeO.bind ?_ (fun _ => ?_))
   | exact ih0 _ _ _ _ _ _ _
   | exact ih1 _ _ _ _ _ _ _
   | exact ih2 _ _ _ _ _ _ _ _
   | exact ih3 _ _ _ _ _ _ _ _ _ _ _ _ _ _
   | exact review_Allowed.mono _ _ _ _ _ _ _ _ _ _
   | exact review_Apply.mono _ _ _ _ _ _ _ _ _ _
   | exact LeO.none _
   | refine LeO.ite ?_ ?_
   | refine LeO.bind ?_ (fun _ => ?_)
def examboardlaw15_perform.T7 : Bool × List (List Nat × List Nat) := (true, [([], []), ([], []), ([], []), ([1, 2], [1, 2]), ([3], [3]), ([0, 4], [0, 4]), ([5], [5]), ([6], [6]), ([6], [6]), ([], []), ([9, 7, 5, 0, 1, 2, 3, 4, 5, 6, 7, 9], [7, 9]), ([8, 10, 0, 1, 2, 3, 4, 5, 6, 7, 8, 9, 10], [8])])
def examboardlaw15_perform.B7 : List Nat := [0, 0, 0, 6, 14, 31, 63, 127, 127, 0, 767, 2047]
theorem examboardlaw15_perform.tab7 : rtab .any (opsOf Try.f11 7) = examboardlaw15_perform.T7 := by kernel_rfl
theorem examboardlaw15_perform.bits7 : waitsOk examboardlaw15_perform.T7.2 examboardlaw15_perform.B7 = true := by kernel_rfl
def examboardlaw15_perform.T8 : Bool × List (List Nat × List Nat) := (true, [([], []), ([0], [0]), ([], []), ([], []), ([], []), ([3, 4], [3, 4]), ([5], [5]), ([2, 6], [2, 6]), ([7], [7]), ([1, 8], [1, 8])])
def examboardlaw15_perform.B8 : List Nat := [0, 1, 0, 0, 0, 24, 56, 124, 252, 511]
theorem examboardlaw15_perform.tab8 : rtab .any (opsOf Try.f11 8) = examboardlaw15_perform.T8 := by kernel_rfl
theorem examboardlaw15_perform.bits8 : waitsOk examboardlaw15_perform.T8.2 examboardlaw15_perform.B8 = true := by kernel_rfl
set_option maxHeartbeats 8000000 in
set_option maxRecDepth 100000 in
theorem examboardlaw15_perform.calls (k : Nat) (a0 : Int) (A1 : Option Addr) (c1 : Nat) (l1 : List (S34)) (r1 : Int) (r2 : Int) (r3 : List Int) (r4 : List Int) (r5 : List (S34)) (r6 : Bool) (w : World) (hr1 : Kd.C k34 w A1 l1.length l1) (hc1 : l1.length ≤ c1) (h : examboardlaw15_perform.f k a0 l1 = some (r1, r2, r3, r4, r5, r6)) :
  Calls Try.prog 11 #[.int .i64 a0, .slice A1 l1.length c1] w fun e w' => ∃ v2_ v3_ v4_ : Value, e = .returned (.tuple #[.agg #[.int .i64 r1, .int .i64 r2, v2_, v3_, v4_], .bool r6]) ∧ Kd.R (Kd.int .i64) 3 w' w.heap.size (fun k_ => some k_ ≠ (v3_ : Value).ownBlock) v2_ r3 ∧ Kd.R (Kd.int .i64) 3 w' w.heap.size (fun k_ => some k_ ≠ (v2_ : Value).ownBlock) v3_ r4 ∧ Kd.R k34 34 w' w.heap.size (fun _ => True) v4_ r5 ∧ Below w.heap.size w w' := by
 have hu25 := Try.underlying25
 have hu34 := Try.underlying34
 have HR1 := Aside0.mk hr1
 have HC1 := Aside0.mk hc1
 clear hr1 hc1
 have HB := Aside0.mk (Below.refl w.heap.size w)
 have H : ((review_New.f a0).bind fun bt177 => (if bt177.2.2.2.2.2 = 0 then (if bt177.1 = 1 then (examboardlaw15_perform.j0 k l1 (bt177.2.1 != a0) bt177.1 bt177.2.1 bt177.2.2.1 bt177.2.2.2.1 bt177.2.2.2.2.1) else (examboardlaw15_perform.j0 k l1 true bt177.1 bt177.2.1 bt177.2.2.1 bt177.2.2.2.1 bt177.2.2.2.2.1)) else (examboardlaw15_perform.j0 k l1 true bt177.1 bt177.2.1 bt177.2.2.1 bt177.2.2.2.1 bt177.2.2.2.2.1))) = some (r1, r2, r3, r4, r5, r6) := h
 clear h
 replace H := Option.bind_eq_some_iff.mp H
 obtain ⟨⟨t177, t178, t179, t182, t185, t188⟩, A30, H⟩ := H
 replace H : (if t188 = 0 then (if t177 = 1 then (examboardlaw15_perform.j0 k l1 (t178 != a0) t177 t178 t179 t182 t185) else (examboardlaw15_perform.j0 k l1 true t177 t178 t179 t182 t185)) else (examboardlaw15_perform.j0 k l1 true t177 t178 t179 t182 t185)) = some (r1, r2, r3, r4, r5, r6) := H
 have A3 := Aside0.mk A30
 clear A30
 have HC4 := Aside0.mk H
 clear H
 go_enter Try.func11, Try.ntmps11
 go_upto_region 2 with (first | ((with_reducible refine gate_dst (N := 4) rfl ?_); refine box_event ?hg (N := 4) ?hd (cs := #[.int .i64 0, .int .i64 0, .slice none 0 0, .slice none 0 0, .slice none 0 0]) (t := 25) ?hr ?_; (case hd => rfl); (case hg => rfl); (case hr => first | (go_simp; done) | (go_simp; rfl)); intro gb176 hg w5 hbox hb; have n0_ := Aside0.mk (below_step (by repeat (first | (with_reducible first | exact HB.out | apply below_alloc | apply pw_below_drewN | apply below_drew1) | exact HB.out)) hb); have n1_ := Aside0.mk (hbox); have n2_ := Aside0.mk ((by rw [hg]; exact (below_size (by repeat (first | (with_reducible first | exact HB.out | apply below_alloc | apply pw_below_drewN | apply below_drew1) | exact HB.out))) : w.heap.size ≤ gb176)); have n3_ := Aside0.mk ((by rw [hg]; exact (below_size (by repeat (first | (with_reducible first | exact HB.out | apply below_alloc | apply pw_below_drewN | apply below_drew1) | exact HB.out))) : w.heap.size ≤ gb176)); clear HB; have HB := n0_; have BK176 := n1_; have GW176 := n2_; have GE176 := n3_; clear n0_ n1_ n2_ n3_; clear hb hbox hg) | ((with_reducible refine gate_callee (f := 14) rfl ?_); refine goesL_ (some 13) rfl rfl Try.func14 (by kernel_rfl) rfl #[.int .i64 a0] rfl (by (try simp only [List.map_toArray, List.map_cons, List.map_nil]); first | done | rfl | (simp only [List.length_drop, List.length_take]; rfl)) ?_; (with_reducible refine (review_New.calls a0 t177 t178 t179 t182 t185 t188 _ A3.out).mono ?_); rintro e w6 ⟨v180, v183, v186, rfl, ho0, ho1, ho2, hb⟩; refine ⟨_, rfl, ?_⟩; have n0_ := Aside0.mk (Kd.R_lower ho0 (below_size (by repeat (first | (with_reducible first | exact HB.out | apply below_alloc | apply pw_below_drewN | apply below_drew1 | refine below_set ?_ GE176.out) | exact HB.out)))); have n1_ := Aside0.mk (Kd.R_lower ho1 (below_size (by repeat (first | (with_reducible first | exact HB.out | apply below_alloc | apply pw_below_drewN | apply below_drew1 | refine below_set ?_ GE176.out) | exact HB.out)))); have n2_ := Aside0.mk (Kd.R_lower ho2 (below_size (by repeat (first | (with_reducible first | exact HB.out | apply below_alloc | apply pw_below_drewN | apply below_drew1 | refine below_set ?_ GE176.out) | exact HB.out)))); have n3_ := Aside0.mk (blk_below (g := gb176) (o := .cells #[.int .i64 0, .int .i64 0, .slice none 0 0, .slice none 0 0, .slice none 0 0] 25 (0, 0)) (by (with_reducible repeat (first | refine blk_drewN ?_ _ | refine blk_drew ?_ | refine blk_alloc ?_ _)); exact BK176.out) hb); have n4_ := Aside0.mk (below_step (by repeat (first | (with_reducible first | exact HB.out | apply below_alloc | apply pw_below_drewN | apply below_drew1 | refine below_set ?_ GE176.out) | exact HB.out)) hb); clear BK176; clear HB; have HO181 := n0_; have HO184 := n1_; have HO187 := n2_; have BK176 := n3_; have HB := n4_; clear n0_ n1_ n2_ n3_ n4_; (try clear hb); (try clear hb2); (try clear hk); (try clear hi); (try clear ho0); (try clear ho1); (try clear ho2)) | ((with_reducible refine gate_dst (N := 6) rfl ?_); refine box_event ?hg (N := 6) ?hd (cs := #[.int .i64 0, .int .i64 0, .slice none 0 0, .slice none 0 0, .slice none 0 0]) (t := 25) ?hr ?_; (case hd => rfl); (case hg => rfl); (case hr => first | (go_simp; done) | (go_simp; rfl)); intro gb189 hg w7 hbox hb; have n0_ := Aside0.mk (Kd.R_below (by (with_reducible repeat (first | apply Kd.R_alloc | apply Kd.R_drewN | apply Kd.R_drew)); exact HO181.out) hb); have n1_ := Aside0.mk (Kd.R_below (by (with_reducible repeat (first | apply Kd.R_alloc | apply Kd.R_drewN | apply Kd.R_drew)); exact HO184.out) hb); have n2_ := Aside0.mk (Kd.R_below (by (with_reducible repeat (first | apply Kd.R_alloc | apply Kd.R_drewN | apply Kd.R_drew)); exact HO187.out) hb); have n3_ := Aside0.mk (blk_below (g := gb176) (o := .cells #[.int .i64 0, .int .i64 0, .slice none 0 0, .slice none 0 0, .slice none 0 0] 25 (0, 0)) (by (with_reducible repeat (first | refine blk_drewN ?_ _ | refine blk_drew ?_ | refine blk_alloc ?_ _)); exact BK176.out) hb); have n4_ := Aside0.mk (below_step (by repeat (first | (with_reducible first | exact HB.out | apply below_alloc | apply pw_below_drewN | apply below_drew1 | refine below_set ?_ GE176.out) | exact HB.out)) hb); have n5_ := Aside0.mk (hbox); have n6_ := Aside0.mk ((by rw [hg]; exact (below_size (by repeat (first | (with_reducible first | exact HB.out | apply below_alloc | apply pw_below_drewN | apply below_drew1 | refine below_set ?_ GE176.out) | exact HB.out))) : w.heap.size ≤ gb189)); have n7_ := Aside0.mk ((by rw [hg]; exact (below_size (by repeat (first | (with_reducible first | exact HB.out | apply below_alloc | apply pw_below_drewN | apply below_drew1 | refine below_set ?_ GE176.out) | exact HB.out))) : w.heap.size ≤ gb189)); have n8_ := Aside0.mk ((by rw [hg]; exact Nat.ne_of_lt (blk_lt (g := gb176) (o := .cells #[.int .i64 0, .int .i64 0, .slice none 0 0, .slice none 0 0, .slice none 0 0] 25 (0, 0)) (by (with_reducible repeat (first | refine blk_drewN ?_ _ | refine blk_drew ?_ | refine blk_alloc ?_ _)); exact BK176.out)) : gb176 ≠ gb189)); have n9_ := Aside0.mk ((by rw [hg]; exact Nat.ne_of_gt (blk_lt (g := gb176) (o := .cells #[.int .i64 0, .int .i64 0, .slice none 0 0, .slice none 0 0, .slice none 0 0] 25 (0, 0)) (by (with_reducible repeat (first | refine blk_drewN ?_ _ | refine blk_drew ?_ | refine blk_alloc ?_ _)); exact BK176.out)) : gb189 ≠ gb176)); clear HO181; clear HO184; clear HO187; clear BK176; clear HB; have HO181 := n0_; have HO184 := n1_; have HO187 := n2_; have BK176 := n3_; have HB := n4_; have BK189 := n5_; have GW189 := n6_; have GE189 := n7_; have NB176_189 := n8_; have NB189_176 := n9_; clear n0_ n1_ n2_ n3_ n4_ n5_ n6_ n7_ n8_ n9_; clear hb hbox hg; have hnb8 := NB189_176.out; have hnc8 := NB176_189.out; have hcz9_0 : w7.cell? ⟨gb189, 0, none⟩ = some (.int .i64 0) := (blk_cell BK189.out 0).trans rfl; have hcz9_1 : w7.cell? ⟨gb189, 1, none⟩ = some (.int .i64 0) := (blk_cell BK189.out 1).trans rfl; have hcz9_2 : w7.cell? ⟨gb189, 2, none⟩ = some (.slice none 0 0) := (blk_cell BK189.out 2).trans rfl; have hcz9_3 : w7.cell? ⟨gb189, 3, none⟩ = some (.slice none 0 0) := (blk_cell BK189.out 3).trans rfl; have hcz9_4 : w7.cell? ⟨gb189, 4, none⟩ = some (.slice none 0 0) := (blk_cell BK189.out 4).trans rfl; have hfz9_0 := blk_frozen BK189.out 0; have hfz9_1 := blk_frozen BK189.out 1; have hfz9_2 := blk_frozen BK189.out 2; have hfz9_3 := blk_frozen BK189.out 3; have hfz9_4 := blk_frozen BK189.out 4; obtain ⟨Ao10, co10, eo10⟩ := Kd.R_slice HO181.out; subst eo10; obtain ⟨Ao11, co11, eo11⟩ := Kd.R_slice HO184.out; subst eo11; obtain ⟨Ao12, co12, eo12⟩ := Kd.R_slice HO187.out; subst eo12))
 (try simp only [Act.put, List.setIfInBounds_toArray, List.set_cons_zero, List.set_cons_succ])
 go_cut [28] (fun v28 wc => ∃ (kq : Nat) (x28_3 : Bool), v28 = .bool x28_3 ∧ Aside0 (examboardlaw15_perform.j0 kq l1 x28_3 t177 t178 t179 t182 t185 = some (r1, r2, r3, r4, r5, r6)) ∧ Aside0 (kq ≤ k) ∧ Aside0 (Kd.R (Kd.int .i64) 3 wc w.heap.size (fun k_ => some k_ ≠ ((.slice Ao11 t182.length co11) : Value).ownBlock) (.slice Ao10 t179.length co10) t179) ∧ Aside0 (Kd.R (Kd.int .i64) 3 wc w.heap.size (fun k_ => some k_ ≠ ((.slice Ao10 t179.length co10) : Value).ownBlock) (.slice Ao11 t182.length co11) t182) ∧ Aside0 (Kd.R k34 34 wc w.heap.size (fun _ => True) (.slice Ao12 t185.length co12) t185) ∧ Aside0 (wc.heap[gb176]? = some (.cells #[.int .i64 0, .int .i64 0, (.slice none 0 0), (.slice none 0 0), (.slice none 0 0)] 25 (0, 0))) ∧ Aside0 (wc.heap[gb189]? = some (.cells #[.int .i64 t177, .int .i64 t178, (.slice Ao10 t179.length co10), (.slice Ao11 t182.length co11), (.slice Ao12 t185.length co12)] 25 (0, 0))) ∧ Aside0 (Below w.heap.size w wc))
 case first =>
  have H := HC4.out
  clear HC4
  by_cases c13 : t188 = 0
  ·
   rw [if_pos c13] at H
   have c13b0 : (t188 == 0) = true := beq_iff_eq.mpr c13
   have c13b1 : (t188 != 0) = false := bne_eq_false_iff_eq.mpr c13
   clear c13
   (first | rw [c13b0] | (simp only [i64_w, i32_w]; rw [c13b0]) | skip)
   by_cases c14 : t177 = 1
   ·
    rw [if_pos c14] at H
    have c14b0 : (t177 == 1) = true := beq_iff_eq.mpr c14
    have c14b1 : (t177 != 1) = false := bne_eq_false_iff_eq.mpr c14
    clear c14
    have H' := Aside0.mk H
    clear H
    have hnb15 := NB189_176.out
    have hnc15 := NB176_189.out
    have hcz16_0 : w7.cell? ⟨gb189, 0, none⟩ = some (.int .i64 0) := (blk_cell BK189.out 0).trans rfl
    have hcz16_1 : w7.cell? ⟨gb189, 1, none⟩ = some (.int .i64 0) := (blk_cell BK189.out 1).trans rfl
    have hcz16_2 : w7.cell? ⟨gb189, 2, none⟩ = some (.slice none 0 0) := (blk_cell BK189.out 2).trans rfl
    have hcz16_3 : w7.cell? ⟨gb189, 3, none⟩ = some (.slice none 0 0) := (blk_cell BK189.out 3).trans rfl
    have hcz16_4 : w7.cell? ⟨gb189, 4, none⟩ = some (.slice none 0 0) := (blk_cell BK189.out 4).trans rfl
    have hfz16_0 := blk_frozen BK189.out 0
    have hfz16_1 := blk_frozen BK189.out 1
    have hfz16_2 := blk_frozen BK189.out 2
    have hfz16_3 := blk_frozen BK189.out 3
    have hfz16_4 := blk_frozen BK189.out 4
    go_wp2
    go_meet
    case rel => exact ⟨_, ((t178 != a0)), (by first | rfl | (simp; done) | (simp [*]; done)), H', ⟨by first | omega | exact Nat.le_refl _⟩, ⟨by (with_reducible repeat (first | apply Kd.R_alloc | apply Kd.R_drewN | apply Kd.R_drew)); exact Kd.R_mono (Kd.R_far (p := ⟨gb189, 4, none⟩) (Kd.R_far (p := ⟨gb189, 3, none⟩) (Kd.R_far (p := ⟨gb189, 2, none⟩) (Kd.R_far (p := ⟨gb189, 1, none⟩) (Kd.R_far (p := ⟨gb189, 0, none⟩) (Kd.R_types HO181.out BK189.out (by decide)) (fun _ hk => hk.2) (.int .i64 t177)) (fun _ hk => hk.2) (.int .i64 t178)) (fun _ hk => hk.2) (.slice Ao10 t179.length co10)) (fun _ hk => hk.2) (.slice Ao11 t182.length co11)) (fun _ hk => hk.2) (.slice Ao12 t185.length co12)) (fun _ hk => hk.1)⟩, ⟨by (with_reducible repeat (first | apply Kd.R_alloc | apply Kd.R_drewN | apply Kd.R_drew)); exact Kd.R_mono (Kd.R_far (p := ⟨gb189, 4, none⟩) (Kd.R_far (p := ⟨gb189, 3, none⟩) (Kd.R_far (p := ⟨gb189, 2, none⟩) (Kd.R_far (p := ⟨gb189, 1, none⟩) (Kd.R_far (p := ⟨gb189, 0, none⟩) (Kd.R_types HO184.out BK189.out (by decide)) (fun _ hk => hk.2) (.int .i64 t177)) (fun _ hk => hk.2) (.int .i64 t178)) (fun _ hk => hk.2) (.slice Ao10 t179.length co10)) (fun _ hk => hk.2) (.slice Ao11 t182.length co11)) (fun _ hk => hk.2) (.slice Ao12 t185.length co12)) (fun _ hk => hk.1)⟩, ⟨by (with_reducible repeat (first | apply Kd.R_alloc | apply Kd.R_drewN | apply Kd.R_drew)); exact Kd.R_mono (Kd.R_far (p := ⟨gb189, 4, none⟩) (Kd.R_far (p := ⟨gb189, 3, none⟩) (Kd.R_far (p := ⟨gb189, 2, none⟩) (Kd.R_far (p := ⟨gb189, 1, none⟩) (Kd.R_far (p := ⟨gb189, 0, none⟩) (Kd.R_types HO187.out BK189.out (by decide)) (fun _ hk => hk.2) (.int .i64 t177)) (fun _ hk => hk.2) (.int .i64 t178)) (fun _ hk => hk.2) (.slice Ao10 t179.length co10)) (fun _ hk => hk.2) (.slice Ao11 t182.length co11)) (fun _ hk => hk.2) (.slice Ao12 t185.length co12)) (fun _ hk => trivial)⟩, ⟨by (with_reducible repeat (first | refine blk_drewN ?_ _ | refine blk_drew ?_ | refine blk_alloc ?_ _)); refine blk_far ?_ NB176_189.out _; (with_reducible repeat (first | refine blk_drewN ?_ _ | refine blk_drew ?_ | refine blk_alloc ?_ _)); refine blk_far ?_ NB176_189.out _; (with_reducible repeat (first | refine blk_drewN ?_ _ | refine blk_drew ?_ | refine blk_alloc ?_ _)); refine blk_far ?_ NB176_189.out _; (with_reducible repeat (first | refine blk_drewN ?_ _ | refine blk_drew ?_ | refine blk_alloc ?_ _)); refine blk_far ?_ NB176_189.out _; (with_reducible repeat (first | refine blk_drewN ?_ _ | refine blk_drew ?_ | refine blk_alloc ?_ _)); refine blk_far ?_ NB176_189.out _; (with_reducible repeat (first | refine blk_drewN ?_ _ | refine blk_drew ?_ | refine blk_alloc ?_ _)); exact BK176.out⟩, ⟨by (with_reducible repeat (first | refine blk_drewN ?_ _ | refine blk_drew ?_ | refine blk_alloc ?_ _)); refine blk_put (cs := #[.int .i64 t177, .int .i64 t178, .slice Ao10 t179.length co10, .slice Ao11 t182.length co11, .slice none 0 0]) ?_ 4 _ rfl; (with_reducible repeat (first | refine blk_drewN ?_ _ | refine blk_drew ?_ | refine blk_alloc ?_ _)); refine blk_put (cs := #[.int .i64 t177, .int .i64 t178, .slice Ao10 t179.length co10, .slice none 0 0, .slice none 0 0]) ?_ 3 _ rfl; (with_reducible repeat (first | refine blk_drewN ?_ _ | refine blk_drew ?_ | refine blk_alloc ?_ _)); refine blk_put (cs := #[.int .i64 t177, .int .i64 t178, .slice none 0 0, .slice none 0 0, .slice none 0 0]) ?_ 2 _ rfl; (with_reducible repeat (first | refine blk_drewN ?_ _ | refine blk_drew ?_ | refine blk_alloc ?_ _)); refine blk_put (cs := #[.int .i64 t177, .int .i64 0, .slice none 0 0, .slice none 0 0, .slice none 0 0]) ?_ 1 _ rfl; (with_reducible repeat (first | refine blk_drewN ?_ _ | refine blk_drew ?_ | refine blk_alloc ?_ _)); refine blk_put (cs := #[.int .i64 0, .int .i64 0, .slice none 0 0, .slice none 0 0, .slice none 0 0]) ?_ 0 _ rfl; (with_reducible repeat (first | refine blk_drewN ?_ _ | refine blk_drew ?_ | refine blk_alloc ?_ _)); exact BK189.out⟩, ⟨by repeat (first | (with_reducible first | exact HB.out | apply below_alloc | apply pw_below_drewN | apply below_drew1 | refine below_set ?_ GE176.out | refine below_set ?_ GE189.out) | exact HB.out)⟩⟩
   ·
    rw [if_neg c14] at H
    have c14b0 : (t177 == 1) = false := beq_eq_false_iff_ne.mpr c14
    have c14b1 : (t177 != 1) = true := bne_iff_ne.mpr c14
    have H' := Aside0.mk H
    clear H
    have hnb17 := NB189_176.out
    have hnc17 := NB176_189.out
    have hcz18_0 : w7.cell? ⟨gb189, 0, none⟩ = some (.int .i64 0) := (blk_cell BK189.out 0).trans rfl
    have hcz18_1 : w7.cell? ⟨gb189, 1, none⟩ = some (.int .i64 0) := (blk_cell BK189.out 1).trans rfl
    have hcz18_2 : w7.cell? ⟨gb189, 2, none⟩ = some (.slice none 0 0) := (blk_cell BK189.out 2).trans rfl
    have hcz18_3 : w7.cell? ⟨gb189, 3, none⟩ = some (.slice none 0 0) := (blk_cell BK189.out 3).trans rfl
    have hcz18_4 : w7.cell? ⟨gb189, 4, none⟩ = some (.slice none 0 0) := (blk_cell BK189.out 4).trans rfl
    have hfz18_0 := blk_frozen BK189.out 0
    have hfz18_1 := blk_frozen BK189.out 1
    have hfz18_2 := blk_frozen BK189.out 2
    have hfz18_3 := blk_frozen BK189.out 3
    have hfz18_4 := blk_frozen BK189.out 4
    go_wp2
    go_meet
    case rel => exact ⟨_, (true), (by first | rfl | (simp; done) | (simp [*]; done)), H', ⟨by first | omega | exact Nat.le_refl _⟩, ⟨by (with_reducible repeat (first | apply Kd.R_alloc | apply Kd.R_drewN | apply Kd.R_drew)); exact Kd.R_mono (Kd.R_far (p := ⟨gb189, 4, none⟩) (Kd.R_far (p := ⟨gb189, 3, none⟩) (Kd.R_far (p := ⟨gb189, 2, none⟩) (Kd.R_far (p := ⟨gb189, 1, none⟩) (Kd.R_far (p := ⟨gb189, 0, none⟩) (Kd.R_types HO181.out BK189.out (by decide)) (fun _ hk => hk.2) (.int .i64 t177)) (fun _ hk => hk.2) (.int .i64 t178)) (fun _ hk => hk.2) (.slice Ao10 t179.length co10)) (fun _ hk => hk.2) (.slice Ao11 t182.length co11)) (fun _ hk => hk.2) (.slice Ao12 t185.length co12)) (fun _ hk => hk.1)⟩, ⟨by (with_reducible repeat (first | apply Kd.R_alloc | apply Kd.R_drewN | apply Kd.R_drew)); exact Kd.R_mono (Kd.R_far (p := ⟨gb189, 4, none⟩) (Kd.R_far (p := ⟨gb189, 3, none⟩) (Kd.R_far (p := ⟨gb189, 2, none⟩) (Kd.R_far (p := ⟨gb189, 1, none⟩) (Kd.R_far (p := ⟨gb189, 0, none⟩) (Kd.R_types HO184.out BK189.out (by decide)) (fun _ hk => hk.2) (.int .i64 t177)) (fun _ hk => hk.2) (.int .i64 t178)) (fun _ hk => hk.2) (.slice Ao10 t179.length co10)) (fun _ hk => hk.2) (.slice Ao11 t182.length co11)) (fun _ hk => hk.2) (.slice Ao12 t185.length co12)) (fun _ hk => hk.1)⟩, ⟨by (with_reducible repeat (first | apply Kd.R_alloc | apply Kd.R_drewN | apply Kd.R_drew)); exact Kd.R_mono (Kd.R_far (p := ⟨gb189, 4, none⟩) (Kd.R_far (p := ⟨gb189, 3, none⟩) (Kd.R_far (p := ⟨gb189, 2, none⟩) (Kd.R_far (p := ⟨gb189, 1, none⟩) (Kd.R_far (p := ⟨gb189, 0, none⟩) (Kd.R_types HO187.out BK189.out (by decide)) (fun _ hk => hk.2) (.int .i64 t177)) (fun _ hk => hk.2) (.int .i64 t178)) (fun _ hk => hk.2) (.slice Ao10 t179.length co10)) (fun _ hk => hk.2) (.slice Ao11 t182.length co11)) (fun _ hk => hk.2) (.slice Ao12 t185.length co12)) (fun _ hk => trivial)⟩, ⟨by (with_reducible repeat (first | refine blk_drewN ?_ _ | refine blk_drew ?_ | refine blk_alloc ?_ _)); refine blk_far ?_ NB176_189.out _; (with_reducible repeat (first | refine blk_drewN ?_ _ | refine blk_drew ?_ | refine blk_alloc ?_ _)); refine blk_far ?_ NB176_189.out _; (with_reducible repeat (first | refine blk_drewN ?_ _ | refine blk_drew ?_ | refine blk_alloc ?_ _)); refine blk_far ?_ NB176_189.out _; (with_reducible repeat (first | refine blk_drewN ?_ _ | refine blk_drew ?_ | refine blk_alloc ?_ _)); refine blk_far ?_ NB176_189.out _; (with_reducible repeat (first | refine blk_drewN ?_ _ | refine blk_drew ?_ | refine blk_alloc ?_ _)); refine blk_far ?_ NB176_189.out _; (with_reducible repeat (first | refine blk_drewN ?_ _ | refine blk_drew ?_ | refine blk_alloc ?_ _)); exact BK176.out⟩, ⟨by (with_reducible repeat (first | refine blk_drewN ?_ _ | refine blk_drew ?_ | refine blk_alloc ?_ _)); refine blk_put (cs := #[.int .i64 t177, .int .i64 t178, .slice Ao10 t179.length co10, .slice Ao11 t182.length co11, .slice none 0 0]) ?_ 4 _ rfl; (with_reducible repeat (first | refine blk_drewN ?_ _ | refine blk_drew ?_ | refine blk_alloc ?_ _)); refine blk_put (cs := #[.int .i64 t177, .int .i64 t178, .slice Ao10 t179.length co10, .slice none 0 0, .slice none 0 0]) ?_ 3 _ rfl; (with_reducible repeat (first | refine blk_drewN ?_ _ | refine blk_drew ?_ | refine blk_alloc ?_ _)); refine blk_put (cs := #[.int .i64 t177, .int .i64 t178, .slice none 0 0, .slice none 0 0, .slice none 0 0]) ?_ 2 _ rfl; (with_reducible repeat (first | refine blk_drewN ?_ _ | refine blk_drew ?_ | refine blk_alloc ?_ _)); refine blk_put (cs := #[.int .i64 t177, .int .i64 0, .slice none 0 0, .slice none 0 0, .slice none 0 0]) ?_ 1 _ rfl; (with_reducible repeat (first | refine blk_drewN ?_ _ | refine blk_drew ?_ | refine blk_alloc ?_ _)); refine blk_put (cs := #[.int .i64 0, .int .i64 0, .slice none 0 0, .slice none 0 0, .slice none 0 0]) ?_ 0 _ rfl; (with_reducible repeat (first | refine blk_drewN ?_ _ | refine blk_drew ?_ | refine blk_alloc ?_ _)); exact BK189.out⟩, ⟨by repeat (first | (with_reducible first | exact HB.out | apply below_alloc | apply pw_below_drewN | apply below_drew1 | refine below_set ?_ GE176.out | refine below_set ?_ GE189.out) | exact HB.out)⟩⟩
  ·
   rw [if_neg c13] at H
   have c13b0 : (t188 == 0) = false := beq_eq_false_iff_ne.mpr c13
   have c13b1 : (t188 != 0) = true := bne_iff_ne.mpr c13
   (first | rw [c13b0] | (simp only [i64_w, i32_w]; rw [c13b0]) | skip)
   have H' := Aside0.mk H
   clear H
   go_wp2
   go_meet
   case rel => exact ⟨_, (true), (by first | rfl | (simp; done) | (simp [*]; done)), H', ⟨by first | omega | exact Nat.le_refl _⟩, ⟨by (with_reducible repeat (first | apply Kd.R_alloc | apply Kd.R_drewN | apply Kd.R_drew)); exact Kd.R_mono (Kd.R_far (p := ⟨gb189, 4, none⟩) (Kd.R_far (p := ⟨gb189, 3, none⟩) (Kd.R_far (p := ⟨gb189, 2, none⟩) (Kd.R_far (p := ⟨gb189, 1, none⟩) (Kd.R_far (p := ⟨gb189, 0, none⟩) (Kd.R_types HO181.out BK189.out (by decide)) (fun _ hk => hk.2) (.int .i64 t177)) (fun _ hk => hk.2) (.int .i64 t178)) (fun _ hk => hk.2) (.slice Ao10 t179.length co10)) (fun _ hk => hk.2) (.slice Ao11 t182.length co11)) (fun _ hk => hk.2) (.slice Ao12 t185.length co12)) (fun _ hk => hk.1)⟩, ⟨by (with_reducible repeat (first | apply Kd.R_alloc | apply Kd.R_drewN | apply Kd.R_drew)); exact Kd.R_mono (Kd.R_far (p := ⟨gb189, 4, none⟩) (Kd.R_far (p := ⟨gb189, 3, none⟩) (Kd.R_far (p := ⟨gb189, 2, none⟩) (Kd.R_far (p := ⟨gb189, 1, none⟩) (Kd.R_far (p := ⟨gb189, 0, none⟩) (Kd.R_types HO184.out BK189.out (by decide)) (fun _ hk => hk.2) (.int .i64 t177)) (fun _ hk => hk.2) (.int .i64 t178)) (fun _ hk => hk.2) (.slice Ao10 t179.length co10)) (fun _ hk => hk.2) (.slice Ao11 t182.length co11)) (fun _ hk => hk.2) (.slice Ao12 t185.length co12)) (fun _ hk => hk.1)⟩, ⟨by (with_reducible repeat (first | apply Kd.R_alloc | apply Kd.R_drewN | apply Kd.R_drew)); exact Kd.R_mono (Kd.R_far (p := ⟨gb189, 4, none⟩) (Kd.R_far (p := ⟨gb189, 3, none⟩) (Kd.R_far (p := ⟨gb189, 2, none⟩) (Kd.R_far (p := ⟨gb189, 1, none⟩) (Kd.R_far (p := ⟨gb189, 0, none⟩) (Kd.R_types HO187.out BK189.out (by decide)) (fun _ hk => hk.2) (.int .i64 t177)) (fun _ hk => hk.2) (.int .i64 t178)) (fun _ hk => hk.2) (.slice Ao10 t179.length co10)) (fun _ hk => hk.2) (.slice Ao11 t182.length co11)) (fun _ hk => hk.2) (.slice Ao12 t185.length co12)) (fun _ hk => trivial)⟩, ⟨by (with_reducible repeat (first | refine blk_drewN ?_ _ | refine blk_drew ?_ | refine blk_alloc ?_ _)); refine blk_far ?_ NB176_189.out _; (with_reducible repeat (first | refine blk_drewN ?_ _ | refine blk_drew ?_ | refine blk_alloc ?_ _)); refine blk_far ?_ NB176_189.out _; (with_reducible repeat (first | refine blk_drewN ?_ _ | refine blk_drew ?_ | refine blk_alloc ?_ _)); refine blk_far ?_ NB176_189.out _; (with_reducible repeat (first | refine blk_drewN ?_ _ | refine blk_drew ?_ | refine blk_alloc ?_ _)); refine blk_far ?_ NB176_189.out _; (with_reducible repeat (first | refine blk_drewN ?_ _ | refine blk_drew ?_ | refine blk_alloc ?_ _)); refine blk_far ?_ NB176_189.out _; (with_reducible repeat (first | refine blk_drewN ?_ _ | refine blk_drew ?_ | refine blk_alloc ?_ _)); exact BK176.out⟩, ⟨by (with_reducible repeat (first | refine blk_drewN ?_ _ | refine blk_drew ?_ | refine blk_alloc ?_ _)); refine blk_put (cs := #[.int .i64 t177, .int .i64 t178, .slice Ao10 t179.length co10, .slice Ao11 t182.length co11, .slice none 0 0]) ?_ 4 _ rfl; (with_reducible repeat (first | refine blk_drewN ?_ _ | refine blk_drew ?_ | refine blk_alloc ?_ _)); refine blk_put (cs := #[.int .i64 t177, .int .i64 t178, .slice Ao10 t179.length co10, .slice none 0 0, .slice none 0 0]) ?_ 3 _ rfl; (with_reducible repeat (first | refine blk_drewN ?_ _ | refine blk_drew ?_ | refine blk_alloc ?_ _)); refine blk_put (cs := #[.int .i64 t177, .int .i64 t178, .slice none 0 0, .slice none 0 0, .slice none 0 0]) ?_ 2 _ rfl; (with_reducible repeat (first | refine blk_drewN ?_ _ | refine blk_drew ?_ | refine blk_alloc ?_ _)); refine blk_put (cs := #[.int .i64 t177, .int .i64 0, .slice none 0 0, .slice none 0 0, .slice none 0 0]) ?_ 1 _ rfl; (with_reducible repeat (first | refine blk_drewN ?_ _ | refine blk_drew ?_ | refine blk_alloc ?_ _)); refine blk_put (cs := #[.int .i64 0, .int .i64 0, .slice none 0 0, .slice none 0 0, .slice none 0 0]) ?_ 0 _ rfl; (with_reducible repeat (first | refine blk_drewN ?_ _ | refine blk_drew ?_ | refine blk_alloc ?_ _)); exact BK189.out⟩, ⟨by repeat (first | (with_reducible first | exact HB.out | apply below_alloc | apply pw_below_drewN | apply below_drew1 | refine below_set ?_ GE176.out | refine below_set ?_ GE189.out) | exact HB.out)⟩⟩
 case rest =>
  clear HC4
  (try clear c1); (try clear p2); (try clear c8); (try clear c11); (try clear c13); (try clear c13b0); (try clear c13b1); (try clear c14); (try clear c14b0); (try clear c14b1); (try clear c15); (try clear c17); (try clear hcz16_0); (try clear hcz16_1); (try clear hcz16_2); (try clear hcz16_3); (try clear hcz16_4); (try clear hcz18_0); (try clear hcz18_1); (try clear hcz18_2); (try clear hcz18_3); (try clear hcz18_4); (try clear hcz9_0); (try clear hcz9_1); (try clear hcz9_2); (try clear hcz9_3); (try clear hcz9_4); (try clear hfz16_0); (try clear hfz16_1); (try clear hfz16_2); (try clear hfz16_3); (try clear hfz16_4); (try clear hfz18_0); (try clear hfz18_1); (try clear hfz18_2); (try clear hfz18_3); (try clear hfz18_4); (try clear hfz9_0); (try clear hfz9_1); (try clear hfz9_2); (try clear hfz9_3); (try clear hfz9_4)
  obtain ⟨kq, x28_3, rfl, HA, HJ3, HO_190002, HO_190003, HO_190004, BK176, BK189, HB⟩ := hcut
  cases kq with
  | zero => exact absurd HA.out (by simp [examboardlaw15_perform.j0])
  | succ kj3 =>
   have H := HA.out
   clear HA
   simp only [examboardlaw15_perform.j0] at H
   by_cases c19 : x28_3 = true
   ·
    subst c19
    have H1 : (some (t177, t178, t179, t182, t185, false)) = some (r1, r2, r3, r4, r5, r6) := by rw [if_pos rfl] at H; exact H
    clear H
    have H := H1
    clear H1
    simp only [Option.some.injEq, Prod.mk.injEq] at H
    obtain ⟨rfl, rfl, rfl, rfl, rfl, rfl⟩ := H
    have hnb20 := NB189_176.out
    have hnc20 := NB176_189.out
    have hcz21_0 : wc.cell? ⟨gb189, 0, none⟩ = some (.int .i64 t177) := (blk_cell BK189.out 0).trans rfl
    have hcz21_1 : wc.cell? ⟨gb189, 1, none⟩ = some (.int .i64 t178) := (blk_cell BK189.out 1).trans rfl
    have hcz21_2 : wc.cell? ⟨gb189, 2, none⟩ = some (.slice Ao10 t179.length co10) := (blk_cell BK189.out 2).trans rfl
    have hcz21_3 : wc.cell? ⟨gb189, 3, none⟩ = some (.slice Ao11 t182.length co11) := (blk_cell BK189.out 3).trans rfl
    have hcz21_4 : wc.cell? ⟨gb189, 4, none⟩ = some (.slice Ao12 t185.length co12) := (blk_cell BK189.out 4).trans rfl
    have hfz21_0 := blk_frozen BK189.out 0
    have hfz21_1 := blk_frozen BK189.out 1
    have hfz21_2 := blk_frozen BK189.out 2
    have hfz21_3 := blk_frozen BK189.out 3
    have hfz21_4 := blk_frozen BK189.out 4
    have hcz22_0 : wc.cell? ⟨gb176, 0, none⟩ = some (.int .i64 0) := (blk_cell BK176.out 0).trans rfl
    have hcz22_1 : wc.cell? ⟨gb176, 1, none⟩ = some (.int .i64 0) := (blk_cell BK176.out 1).trans rfl
    have hcz22_2 : wc.cell? ⟨gb176, 2, none⟩ = some (.slice none 0 0) := (blk_cell BK176.out 2).trans rfl
    have hcz22_3 : wc.cell? ⟨gb176, 3, none⟩ = some (.slice none 0 0) := (blk_cell BK176.out 3).trans rfl
    have hcz22_4 : wc.cell? ⟨gb176, 4, none⟩ = some (.slice none 0 0) := (blk_cell BK176.out 4).trans rfl
    have hfz22_0 := blk_frozen BK176.out 0
    have hfz22_1 := blk_frozen BK176.out 1
    have hfz22_2 := blk_frozen BK176.out 2
    have hfz22_3 := blk_frozen BK176.out 3
    have hfz22_4 := blk_frozen BK176.out 4
    go_wp2
    refine bodyPost_ret (results_ct rfl _ _ gb176 25 #[.int .i64 t177, .int .i64 t178, .slice Ao10 t179.length co10, .slice Ao11 t182.length co11, .slice Ao12 t185.length co12] (0, 0) _ rfl (by (with_reducible repeat (first | refine blk_drewN ?_ _ | refine blk_drew ?_ | refine blk_alloc ?_ _)); refine blk_put (cs := #[.int .i64 t177, .int .i64 t178, .slice Ao10 t179.length co10, .slice Ao11 t182.length co11, .slice none 0 0]) ?_ 4 _ rfl; (with_reducible repeat (first | refine blk_drewN ?_ _ | refine blk_drew ?_ | refine blk_alloc ?_ _)); refine blk_put (cs := #[.int .i64 t177, .int .i64 t178, .slice Ao10 t179.length co10, .slice none 0 0, .slice none 0 0]) ?_ 3 _ rfl; (with_reducible repeat (first | refine blk_drewN ?_ _ | refine blk_drew ?_ | refine blk_alloc ?_ _)); refine blk_put (cs := #[.int .i64 t177, .int .i64 t178, .slice none 0 0, .slice none 0 0, .slice none 0 0]) ?_ 2 _ rfl; (with_reducible repeat (first | refine blk_drewN ?_ _ | refine blk_drew ?_ | refine blk_alloc ?_ _)); refine blk_put (cs := #[.int .i64 t177, .int .i64 0, .slice none 0 0, .slice none 0 0, .slice none 0 0]) ?_ 1 _ rfl; (with_reducible repeat (first | refine blk_drewN ?_ _ | refine blk_drew ?_ | refine blk_alloc ?_ _)); refine blk_put (cs := #[.int .i64 0, .int .i64 0, .slice none 0 0, .slice none 0 0, .slice none 0 0]) ?_ 0 _ rfl; (with_reducible repeat (first | refine blk_drewN ?_ _ | refine blk_drew ?_ | refine blk_alloc ?_ _)); exact BK176.out) Try.underlying25 rfl (by kernel_rfl)) rfl ?_
    exact ⟨_, _, _, by first | rfl | (simp [errW_none, errW_some] <;> rfl) | (simp [*, errW_none, errW_some] <;> rfl), by (with_reducible repeat (first | apply Kd.R_alloc | apply Kd.R_drewN | apply Kd.R_drew)); exact Kd.R_mono (Kd.R_far (p := ⟨gb176, 4, none⟩) (Kd.R_far (p := ⟨gb176, 3, none⟩) (Kd.R_far (p := ⟨gb176, 2, none⟩) (Kd.R_far (p := ⟨gb176, 1, none⟩) (Kd.R_far (p := ⟨gb176, 0, none⟩) (Kd.R_types HO_190002.out BK176.out (by decide)) (fun _ hk => hk.2) (.int .i64 t177)) (fun _ hk => hk.2) (.int .i64 t178)) (fun _ hk => hk.2) (.slice Ao10 t179.length co10)) (fun _ hk => hk.2) (.slice Ao11 t182.length co11)) (fun _ hk => hk.2) (.slice Ao12 t185.length co12)) (fun _ hk => hk.1), by (with_reducible repeat (first | apply Kd.R_alloc | apply Kd.R_drewN | apply Kd.R_drew)); exact Kd.R_mono (Kd.R_far (p := ⟨gb176, 4, none⟩) (Kd.R_far (p := ⟨gb176, 3, none⟩) (Kd.R_far (p := ⟨gb176, 2, none⟩) (Kd.R_far (p := ⟨gb176, 1, none⟩) (Kd.R_far (p := ⟨gb176, 0, none⟩) (Kd.R_types HO_190003.out BK176.out (by decide)) (fun _ hk => hk.2) (.int .i64 t177)) (fun _ hk => hk.2) (.int .i64 t178)) (fun _ hk => hk.2) (.slice Ao10 t179.length co10)) (fun _ hk => hk.2) (.slice Ao11 t182.length co11)) (fun _ hk => hk.2) (.slice Ao12 t185.length co12)) (fun _ hk => hk.1), by (with_reducible repeat (first | apply Kd.R_alloc | apply Kd.R_drewN | apply Kd.R_drew)); exact Kd.R_mono (Kd.R_far (p := ⟨gb176, 4, none⟩) (Kd.R_far (p := ⟨gb176, 3, none⟩) (Kd.R_far (p := ⟨gb176, 2, none⟩) (Kd.R_far (p := ⟨gb176, 1, none⟩) (Kd.R_far (p := ⟨gb176, 0, none⟩) (Kd.R_types HO_190004.out BK176.out (by decide)) (fun _ hk => hk.2) (.int .i64 t177)) (fun _ hk => hk.2) (.int .i64 t178)) (fun _ hk => hk.2) (.slice Ao10 t179.length co10)) (fun _ hk => hk.2) (.slice Ao11 t182.length co11)) (fun _ hk => hk.2) (.slice Ao12 t185.length co12)) (fun _ hk => trivial), by repeat (first | (with_reducible first | exact HB.out | apply below_alloc | apply pw_below_drewN | apply below_drew1 | refine below_set ?_ GE176.out | refine below_set ?_ GE189.out) | exact HB.out)⟩
   ·
    replace c19 := Bool.eq_false_iff.mpr c19
    subst c19
    have H1 : (examboardlaw15_perform.l0 kj3 l1 0 t177 t178 t179 t182 t185) = some (r1, r2, r3, r4, r5, r6) := by rw [if_neg (show ¬ (false = true) by decide)] at H; exact H
    clear H
    have H := H1
    clear H1
    have H' := Aside0.mk H
    clear H
    go_wp2
    go_loopg [8] kj3 (fun kq v8 w' => ∃ (x8_2 : Int) (x177000_2 : Int) (x177001_2 : Int) (x190000_2 : Int) (x190001_2 : Int) (x190002_2 : List Int) (x190003_2 : List Int) (x190004_2 : List (S34)) (u190002 : Value) (u190003 : Value) (u190004 : Value), v8 = .int .i64 x8_2 ∧ Aside0 (examboardlaw15_perform.l0 kq l1 x8_2 x190000_2 x190001_2 x190002_2 x190003_2 x190004_2 = some (r1, r2, r3, r4, r5, r6)) ∧ Aside0 (kq ≤ kj3) ∧ Aside0 (Kd.R (Kd.int .i64) 3 w' w.heap.size (fun k_ => some k_ ≠ (u190003 : Value).ownBlock) u190002 x190002_2) ∧ Aside0 (Kd.R (Kd.int .i64) 3 w' w.heap.size (fun k_ => some k_ ≠ (u190002 : Value).ownBlock) u190003 x190003_2) ∧ Aside0 (Kd.R k34 34 w' w.heap.size (fun _ => True) u190004 x190004_2) ∧ Aside0 (w'.heap[gb176]? = some (.cells #[.int .i64 x177000_2, .int .i64 x177001_2, (.slice none 0 0), (.slice none 0 0), (.slice none 0 0)] 25 (0, 0))) ∧ Aside0 (w'.heap[gb189]? = some (.cells #[.int .i64 x190000_2, .int .i64 x190001_2, u190002, u190003, u190004] 25 (0, 0))) ∧ Aside0 (Below w.heap.size w w'))
    case atStart => exact ⟨(0), (0), (0), (t177), (t178), (t179), (t182), (t185), (.slice Ao10 t179.length co10), (.slice Ao11 t182.length co11), (.slice Ao12 t185.length co12), (by first | rfl | (simp; done) | (simp [*]; done)), H', ⟨Nat.le_refl _⟩, ⟨by (with_reducible repeat (first | apply Kd.R_alloc | apply Kd.R_drewN | apply Kd.R_drew)); exact HO_190002.out⟩, ⟨by (with_reducible repeat (first | apply Kd.R_alloc | apply Kd.R_drewN | apply Kd.R_drew)); exact HO_190003.out⟩, ⟨by (with_reducible repeat (first | apply Kd.R_alloc | apply Kd.R_drewN | apply Kd.R_drew)); exact HO_190004.out⟩, ⟨by (with_reducible repeat (first | refine blk_drewN ?_ _ | refine blk_drew ?_ | refine blk_alloc ?_ _)); exact BK176.out⟩, ⟨by (with_reducible repeat (first | refine blk_drewN ?_ _ | refine blk_drew ?_ | refine blk_alloc ?_ _)); exact BK189.out⟩, ⟨by repeat (first | (with_reducible first | exact HB.out | apply below_alloc | apply pw_below_drewN | apply below_drew1 | refine below_set ?_ GE176.out | refine below_set ?_ GE189.out) | exact HB.out)⟩⟩
    case round =>
     clear H'
     (try clear c1); (try clear c2); (try clear p2); (try clear c8); (try clear c11); (try clear c13); (try clear c13b0); (try clear c13b1); (try clear c14); (try clear c14b0); (try clear c14b1); (try clear c15); (try clear c17); (try clear c19); (try clear c20); (try clear hcz16_0); (try clear hcz16_1); (try clear hcz16_2); (try clear hcz16_3); (try clear hcz16_4); (try clear hcz18_0); (try clear hcz18_1); (try clear hcz18_2); (try clear hcz18_3); (try clear hcz18_4); (try clear hcz21_0); (try clear hcz21_1); (try clear hcz21_2); (try clear hcz21_3); (try clear hcz21_4); (try clear hcz22_0); (try clear hcz22_1); (try clear hcz22_2); (try clear hcz22_3); (try clear hcz22_4); (try clear hcz9_0); (try clear hcz9_1); (try clear hcz9_2); (try clear hcz9_3); (try clear hcz9_4); (try clear hfz16_0); (try clear hfz16_1); (try clear hfz16_2); (try clear hfz16_3); (try clear hfz16_4); (try clear hfz18_0); (try clear hfz18_1); (try clear hfz18_2); (try clear hfz18_3); (try clear hfz18_4); (try clear hfz21_0); (try clear hfz21_1); (try clear hfz21_2); (try clear hfz21_3); (try clear hfz21_4); (try clear hfz22_0); (try clear hfz22_1); (try clear hfz22_2); (try clear hfz22_3); (try clear hfz22_4); (try clear hfz9_0); (try clear hfz9_1); (try clear hfz9_2); (try clear hfz9_3); (try clear hfz9_4); (try clear p2)
     obtain ⟨x8_2, x177000_2, x177001_2, x190000_2, x190001_2, x190002_2, x190003_2, x190004_2, u190002, u190003, u190004, rfl, HA, HK2, HO_190002, HO_190003, HO_190004, BK176, BK189, HB⟩ := hrel
     cases gk with
     | zero => exact absurd HA.out (by simp [examboardlaw15_perform.l0])
     | succ k2 =>
      have H := HA.out
      clear HA
      simp only [examboardlaw15_perform.l0] at H
      have HC23 := Aside0.mk H
      clear H
      go_upto_region 5 with (fail)
      go_cut [37] (fun v37 wc => ∃ (kq : Nat) (x37_22 : Bool), v37 = .bool x37_22 ∧ Aside0 (examboardlaw15_perform.j2 kq l1 x8_2 x37_22 x190000_2 x190001_2 x190002_2 x190003_2 x190004_2 = some (r1, r2, r3, r4, r5, r6)) ∧ Aside0 (kq ≤ k2) ∧ Aside0 (Kd.R (Kd.int .i64) 3 wc w.heap.size (fun k_ => some k_ ≠ (u190003 : Value).ownBlock) u190002 x190002_2) ∧ Aside0 (Kd.R (Kd.int .i64) 3 wc w.heap.size (fun k_ => some k_ ≠ (u190002 : Value).ownBlock) u190003 x190003_2) ∧ Aside0 (Kd.R k34 34 wc w.heap.size (fun _ => True) u190004 x190004_2) ∧ Aside0 (wc.heap[gb176]? = some (.cells #[.int .i64 x177000_2, .int .i64 x177001_2, (.slice none 0 0), (.slice none 0 0), (.slice none 0 0)] 25 (0, 0))) ∧ Aside0 (wc.heap[gb189]? = some (.cells #[.int .i64 x190000_2, .int .i64 x190001_2, u190002, u190003, u190004] 25 (0, 0))) ∧ Aside0 (Below w.heap.size w wc))
      case first =>
       have H := HC23.out
       clear HC23
       by_cases c24 : x8_2 < (l1.length : Int)
       ·
        rw [if_pos c24] at H
        have c24b0 : decide (x8_2 < (l1.length : Int)) = true := decide_eq_true c24
        clear c24
        (first | rw [c24b0] | (simp only [i64_w, i32_w]; rw [c24b0]) | skip)
        have H' := Aside0.mk H
        clear H
        go_wp2
        go_meet
        case rel => exact ⟨_, (decide (x8_2 < 300)), (by first | rfl | (simp; done) | (simp [*]; done)), H', ⟨by have := HJ3.out; have := HK2.out; first | omega | exact Nat.le_refl _⟩, ⟨by (with_reducible repeat (first | apply Kd.R_alloc | apply Kd.R_drewN | apply Kd.R_drew)); exact HO_190002.out⟩, ⟨by (with_reducible repeat (first | apply Kd.R_alloc | apply Kd.R_drewN | apply Kd.R_drew)); exact HO_190003.out⟩, ⟨by (with_reducible repeat (first | apply Kd.R_alloc | apply Kd.R_drewN | apply Kd.R_drew)); exact HO_190004.out⟩, ⟨by (with_reducible repeat (first | refine blk_drewN ?_ _ | refine blk_drew ?_ | refine blk_alloc ?_ _)); exact BK176.out⟩, ⟨by (with_reducible repeat (first | refine blk_drewN ?_ _ | refine blk_drew ?_ | refine blk_alloc ?_ _)); exact BK189.out⟩, ⟨by repeat (first | (with_reducible first | exact HB.out | apply below_alloc | apply pw_below_drewN | apply below_drew1 | refine below_set ?_ GE176.out | refine below_set ?_ GE189.out) | exact HB.out)⟩⟩
       ·
        rw [if_neg c24] at H
        have c24b0 : decide (x8_2 < (l1.length : Int)) = false := decide_eq_false c24
        clear c24
        (first | rw [c24b0] | (simp only [i64_w, i32_w]; rw [c24b0]) | skip)
        have H' := Aside0.mk H
        clear H
        go_wp2
        go_meet
        case rel => exact ⟨_, (false), (by first | rfl | (simp; done) | (simp [*]; done)), H', ⟨by have := HJ3.out; have := HK2.out; first | omega | exact Nat.le_refl _⟩, ⟨by (with_reducible repeat (first | apply Kd.R_alloc | apply Kd.R_drewN | apply Kd.R_drew)); exact HO_190002.out⟩, ⟨by (with_reducible repeat (first | apply Kd.R_alloc | apply Kd.R_drewN | apply Kd.R_drew)); exact HO_190003.out⟩, ⟨by (with_reducible repeat (first | apply Kd.R_alloc | apply Kd.R_drewN | apply Kd.R_drew)); exact HO_190004.out⟩, ⟨by (with_reducible repeat (first | refine blk_drewN ?_ _ | refine blk_drew ?_ | refine blk_alloc ?_ _)); exact BK176.out⟩, ⟨by (with_reducible repeat (first | refine blk_drewN ?_ _ | refine blk_drew ?_ | refine blk_alloc ?_ _)); exact BK189.out⟩, ⟨by repeat (first | (with_reducible first | exact HB.out | apply below_alloc | apply pw_below_drewN | apply below_drew1 | refine below_set ?_ GE176.out | refine below_set ?_ GE189.out) | exact HB.out)⟩⟩
      case rest =>
       clear HC23
       (try clear c1); (try clear c2); (try clear p2); (try clear c8); (try clear c11); (try clear c13); (try clear c13b0); (try clear c13b1); (try clear c14); (try clear c14b0); (try clear c14b1); (try clear c15); (try clear c17); (try clear c19); (try clear c20); (try clear c24); (try clear c24b0); (try clear hcz16_0); (try clear hcz16_1); (try clear hcz16_2); (try clear hcz16_3); (try clear hcz16_4); (try clear hcz18_0); (try clear hcz18_1); (try clear hcz18_2); (try clear hcz18_3); (try clear hcz18_4); (try clear hcz21_0); (try clear hcz21_1); (try clear hcz21_2); (try clear hcz21_3); (try clear hcz21_4); (try clear hcz22_0); (try clear hcz22_1); (try clear hcz22_2); (try clear hcz22_3); (try clear hcz22_4); (try clear hcz9_0); (try clear hcz9_1); (try clear hcz9_2); (try clear hcz9_3); (try clear hcz9_4); (try clear hfz16_0); (try clear hfz16_1); (try clear hfz16_2); (try clear hfz16_3); (try clear hfz16_4); (try clear hfz18_0); (try clear hfz18_1); (try clear hfz18_2); (try clear hfz18_3); (try clear hfz18_4); (try clear hfz21_0); (try clear hfz21_1); (try clear hfz21_2); (try clear hfz21_3); (try clear hfz21_4); (try clear hfz22_0); (try clear hfz22_1); (try clear hfz22_2); (try clear hfz22_3); (try clear hfz22_4); (try clear hfz9_0); (try clear hfz9_1); (try clear hfz9_2); (try clear hfz9_3); (try clear hfz9_4); (try clear p2)
       obtain ⟨kq, x37_22, rfl, HA, HJ22, HO_190002, HO_190003, HO_190004, BK176, BK189, HB⟩ := hcut
       cases kq with
       | zero => exact absurd HA.out (by simp [examboardlaw15_perform.j2])
       | succ kj22 =>
        have H := HA.out
        clear HA
        simp only [examboardlaw15_perform.j2] at H
        by_cases c25 : x37_22 = true
        ·
         subst c25
         have H1 : (if 0 ≤ x8_2 then (if x8_2 < (l1.length : Int) then ((review_Apply.f kj22 x190000_2 x190001_2 x190002_2 x190003_2 x190004_2 ((rd_T34 l1 x8_2).f0) ((rd_T34 l1 x8_2).f1) ((rd_T34 l1 x8_2).f2) ((rd_T34 l1 x8_2).f3)).bind fun bt191 => ((review_Allowed.f kj22 x190000_2 x190001_2 x190002_2 x190003_2 x190004_2 ((rd_T34 l1 x8_2).f0) ((rd_T34 l1 x8_2).f1) ((rd_T34 l1 x8_2).f2) ((rd_T34 l1 x8_2).f3)).bind fun t205 => (examboardlaw15_perform.j3 kj22 l1 x8_2 bt191.2.2.2.2.2 ((bt191.2.2.2.2.2 == 0) != (t205 == 0)) x190000_2 x190001_2 x190002_2 x190003_2 x190004_2 bt191.1 bt191.2.1 bt191.2.2.1 bt191.2.2.2.1 bt191.2.2.2.2.1))) else (none)) else (none)) = some (r1, r2, r3, r4, r5, r6) := by rw [if_pos rfl] at H; exact H
         clear H
         have H := H1
         clear H1
         by_cases c26 : 0 ≤ x8_2
         ·
          rw [if_pos c26] at H
          have c26b0 : decide (0 ≤ x8_2) = true := decide_eq_true c26
          clear c26
          by_cases c27 : x8_2 < (l1.length : Int)
          ·
           rw [if_pos c27] at H
           have c27b0 : decide (x8_2 < (l1.length : Int)) = true := decide_eq_true c27
           clear c27
           replace H := Option.bind_eq_some_iff.mp H
           obtain ⟨⟨t191, t192, t193, t196, t199, t202⟩, A280, H⟩ := H
           replace H : ((review_Allowed.f kj22 x190000_2 x190001_2 x190002_2 x190003_2 x190004_2 ((rd_T34 l1 x8_2).f0) ((rd_T34 l1 x8_2).f1) ((rd_T34 l1 x8_2).f2) ((rd_T34 l1 x8_2).f3)).bind fun t205 => (examboardlaw15_perform.j3 kj22 l1 x8_2 t202 ((t202 == 0) != (t205 == 0)) x190000_2 x190001_2 x190002_2 x190003_2 x190004_2 t191 t192 t193 t196 t199)) = some (r1, r2, r3, r4, r5, r6) := H
           have A28 := Aside0.mk A280
           clear A280
           have HC29 := Aside0.mk H
           clear H
           obtain ⟨Ao30, co30, eo30⟩ := Kd.R_slice HO_190002.out
           subst eo30
           obtain ⟨Ao31, co31, eo31⟩ := Kd.R_slice HO_190003.out
           subst eo31
           obtain ⟨Ao32, co32, eo32⟩ := Kd.R_slice HO_190004.out
           subst eo32
           try go_wp2
           have n0_ := Aside0.mk (Kd.R_drew HO_190002.out)
           have n1_ := Aside0.mk (Kd.R_drew HO_190003.out)
           have n2_ := Aside0.mk (Kd.R_drew HO_190004.out)
           have n3_ := Aside0.mk (blk_drew BK176.out)
           have n4_ := Aside0.mk (blk_drew BK189.out)
           have n5_ := Aside0.mk (below_drew1 HB.out)
           clear HO_190002
           clear HO_190003
           clear HO_190004
           clear BK176
           clear BK189
           clear HB
           have HO_190002 := n0_
           have HO_190003 := n1_
           have HO_190004 := n2_
           have BK176 := n3_
           have BK189 := n4_
           have HB := n5_
           clear n0_ n1_ n2_ n3_ n4_ n5_
           have p190 : 0 ≤ (x8_2 : Int) := of_decide_eq_true (by first | (with_reducible assumption) | assumption)
           have q190 : x8_2 < (l1.length : Int) := of_decide_eq_true (by first | (with_reducible assumption) | assumption)
           obtain ⟨ad190, e190, hx190_0, hx190_1, hx190_2, hx190_3⟩ := at_T34 HR1.out x8_2 p190 q190
           have hw190_3 := hx190_3
           have hw190_2 := hx190_2
           have hw190_1 := hx190_1
           have hw190_0 := hx190_0
           cases e190
           replace hx190_0 := (HB.out.cell (World.block_lt_of_cell? w _ hx190_0)).trans hx190_0
           replace hx190_1 := (HB.out.cell (World.block_lt_of_cell? w _ hx190_1)).trans hx190_1
           replace hx190_2 := (HB.out.cell (World.block_lt_of_cell? w _ hx190_2)).trans hx190_2
           replace hx190_3 := (HB.out.cell (World.block_lt_of_cell? w _ hx190_3)).trans hx190_3
           replace p190 := eq_true p190
           replace q190 := eq_true q190
           refine start_ (n := 12) (S := fun w' => w'.cell? ⟨gb189, 0, none⟩ = some (.int .i64 x190000_2) ∧ w'.cell? ⟨gb189, 1, none⟩ = some (.int .i64 x190001_2) ∧ w'.cell? ⟨gb189, 2, none⟩ = some (.slice Ao30 x190002_2.length co30) ∧ w'.cell? ⟨gb189, 3, none⟩ = some (.slice Ao31 x190003_2.length co31) ∧ w'.cell? ⟨gb189, 4, none⟩ = some (.slice Ao32 x190004_2.length co32) ∧ w'.cell? (ad190.add ((x8_2).toNat * 4)) = some (.int .i64 ((rd_T34 l1 x8_2).f0)) ∧ w'.cell? ⟨(ad190.add ((x8_2).toNat * 4)).block, (ad190.add ((x8_2).toNat * 4)).off + 1, none⟩ = some (.int .i64 ((rd_T34 l1 x8_2).f1)) ∧ w'.cell? ⟨(ad190.add ((x8_2).toNat * 4)).block, (ad190.add ((x8_2).toNat * 4)).off + 2, none⟩ = some (.int .i64 ((rd_T34 l1 x8_2).f2)) ∧ w'.cell? ⟨(ad190.add ((x8_2).toNat * 4)).block, (ad190.add ((x8_2).toNat * 4)).off + 3, none⟩ = some (.int .i64 ((rd_T34 l1 x8_2).f3))) (ds := []) #[false, false, false, false, false, false, false, false, false, false, false, false] (by kernel_rfl) rfl rfl ⟨(blk_cell BK189.out 0).trans rfl, (blk_cell BK189.out 1).trans rfl, (blk_cell BK189.out 2).trans rfl, (blk_cell BK189.out 3).trans rfl, (blk_cell BK189.out 4).trans rfl, ((HB.out.cell (World.block_lt_of_cell? w _ hw190_0)).trans hw190_0), ((HB.out.cell (World.block_lt_of_cell? w _ hw190_1)).trans hw190_1), ((HB.out.cell (World.block_lt_of_cell? w _ hw190_2)).trans hw190_2), ((HB.out.cell (World.block_lt_of_cell? w _ hw190_3)).trans hw190_3)⟩ (fun hHeld => ?_); refine with_tabW examboardlaw15_perform.tab7 examboardlaw15_perform.bits7 (fun HT_ HW_ => ?_)
           generalize wc.drew = w33 at HO_190002 HO_190003 HO_190004 BK176 BK189 HB hx190_0 hx190_1 hx190_2 hx190_3 hHeld ⊢
           refine pure_ (i := 1) (N := some 42) (v := ?_) (a' := ?_) #[false, true, false, false, false, false, false, false, false, false, false, false] rfl rfl (any_of HT_.out (by kernel_rfl)) (fun _ _ _ h => h) (Or.inl ⟨by rfl, ?_⟩) ?_ ?_
           rotate_left
           ·
            intro w'
            go_simp
            with_reducible rfl
           rotate_left
           ·
            simp only [Act.put, List.setIfInBounds_toArray, List.set_cons_zero, List.set_cons_succ, i64_w, i32_w]
            rfl
           refine pure_ (i := 2) (N := some 43) (v := ?_) (a' := ?_) #[false, true, true, false, false, false, false, false, false, false, false, false] rfl rfl (any_of HT_.out (by kernel_rfl)) (fun _ _ _ h => h) (Or.inl ⟨by rfl, ?_⟩) ?_ ?_
           rotate_left
           ·
            intro w'
            go_simp
            with_reducible rfl
           rotate_left
           ·
            simp only [Act.put, List.setIfInBounds_toArray, List.set_cons_zero, List.set_cons_succ, i64_w, i32_w]
            rfl
           refine pure_ (i := 3) (N := some 44) (v := ?_) (a' := ?_) #[false, true, true, true, false, false, false, false, false, false, false, false] rfl rfl (any_of HT_.out (by kernel_rfl)) (fun _ _ _ h => h) (Or.inl ⟨by rfl, ?_⟩) ?_ ?_
           rotate_left
           ·
            intro w'
            go_simp
            with_reducible rfl
           rotate_left
           ·
            simp only [Act.put, List.setIfInBounds_toArray, List.set_cons_zero, List.set_cons_succ, i64_w, i32_w]
            rfl
           refine take_ (i := 0) (N := some 41) (v := ?_) (a' := ?_) #[true, true, true, true, false, false, false, false, false, false, false, false] rfl rfl (take_ofW HT_.out HW_.out (by kernel_rfl)) (fun _ _ _ h => h) (Or.inl ⟨by rfl, ?_⟩) hHeld ?_ ?_
           rotate_left
           ·
            rintro w' ⟨s0, s1, s2, s3, s4, s5, s6, s7, s8⟩
            go_simp
            with_reducible rfl
           rotate_left
           ·
            simp only [Act.put, List.setIfInBounds_toArray, List.set_cons_zero, List.set_cons_succ, i64_w, i32_w]
            rfl
           refine take_ (i := 4) (N := some 45) (v := ?_) (a' := ?_) #[true, true, true, true, true, false, false, false, false, false, false, false] rfl rfl (take_ofW HT_.out HW_.out (by kernel_rfl)) (fun _ _ _ h => h) (Or.inl ⟨by rfl, ?_⟩) hHeld ?_ ?_
           rotate_left
           ·
            rintro w' ⟨s0, s1, s2, s3, s4, s5, s6, s7, s8⟩
            go_simp
            with_reducible rfl
           rotate_left
           ·
            simp only [Act.put, List.setIfInBounds_toArray, List.set_cons_zero, List.set_cons_succ, i64_w, i32_w]
            rfl
           refine join_ (σ := Value × Value × Value × Nat) 2 #[true, true, true, true, true, true, true, true, true, true, false, false] (fun s_ => [(46, .tuple #[.agg #[.int .i64 t191, .int .i64 t192, s_.1, s_.2.1, s_.2.2.1], .int .i64 t202]), (9, .pointer (some ⟨s_.2.2.2, 0, none⟩)), (40, .tuple #[.agg #[.int .i64 t191, .int .i64 t192, s_.1, s_.2.1, s_.2.2.1], .int .i64 t202]), (47, .agg #[.int .i64 t191, .int .i64 t192, s_.1, s_.2.1, s_.2.2.1]), (48, .int .i64 t202)]) (fun s_ w' => (w'.cell? ⟨gb189, 0, none⟩ = some (.int .i64 x190000_2) ∧ w'.cell? ⟨gb189, 1, none⟩ = some (.int .i64 x190001_2) ∧ w'.cell? ⟨gb189, 2, none⟩ = some (.slice Ao30 x190002_2.length co30) ∧ w'.cell? ⟨gb189, 3, none⟩ = some (.slice Ao31 x190003_2.length co31) ∧ w'.cell? ⟨gb189, 4, none⟩ = some (.slice Ao32 x190004_2.length co32) ∧ w'.cell? (ad190.add ((x8_2).toNat * 4)) = some (.int .i64 ((rd_T34 l1 x8_2).f0)) ∧ w'.cell? ⟨(ad190.add ((x8_2).toNat * 4)).block, (ad190.add ((x8_2).toNat * 4)).off + 1, none⟩ = some (.int .i64 ((rd_T34 l1 x8_2).f1)) ∧ w'.cell? ⟨(ad190.add ((x8_2).toNat * 4)).block, (ad190.add ((x8_2).toNat * 4)).off + 2, none⟩ = some (.int .i64 ((rd_T34 l1 x8_2).f2)) ∧ w'.cell? ⟨(ad190.add ((x8_2).toNat * 4)).block, (ad190.add ((x8_2).toNat * 4)).off + 3, none⟩ = some (.int .i64 ((rd_T34 l1 x8_2).f3))) ∧ (Kd.R (Kd.int .i64) 3 w' w.heap.size (fun k_ => some k_ ≠ (s_.2.1 : Value).ownBlock ∧ some k_ ≠ (.slice Ao30 x190002_2.length co30 : Value).ownBlock ∧ some k_ ≠ (.slice Ao31 x190003_2.length co31 : Value).ownBlock) s_.1 t193) ∧ (Kd.R (Kd.int .i64) 3 w' w.heap.size (fun k_ => some k_ ≠ (s_.1 : Value).ownBlock ∧ some k_ ≠ (.slice Ao30 x190002_2.length co30 : Value).ownBlock ∧ some k_ ≠ (.slice Ao31 x190003_2.length co31 : Value).ownBlock) s_.2.1 t196) ∧ (Kd.R k34 34 w' w.heap.size (fun k_ => some k_ ≠ (.slice Ao32 x190004_2.length co32 : Value).ownBlock) s_.2.2.1 t199) ∧ (Kd.R (Kd.int .i64) 3 w' w.heap.size (fun k_ => some k_ ≠ (s_.1 : Value).ownBlock ∧ some k_ ≠ (s_.2.1 : Value).ownBlock ∧ some k_ ≠ (.slice Ao31 x190003_2.length co31 : Value).ownBlock) (.slice Ao30 x190002_2.length co30) x190002_2) ∧ (Kd.R (Kd.int .i64) 3 w' w.heap.size (fun k_ => some k_ ≠ (s_.1 : Value).ownBlock ∧ some k_ ≠ (s_.2.1 : Value).ownBlock ∧ some k_ ≠ (.slice Ao30 x190002_2.length co30 : Value).ownBlock) (.slice Ao31 x190003_2.length co31) x190003_2) ∧ (Kd.R k34 34 w' w.heap.size (fun k_ => some k_ ≠ (s_.2.2.1 : Value).ownBlock) (.slice Ao32 x190004_2.length co32) x190004_2) ∧ (w'.heap[gb176]? = some (.cells #[.int .i64 x177000_2, .int .i64 x177001_2, .slice none 0 0, .slice none 0 0, .slice none 0 0] 25 (0, 0))) ∧ (w'.heap[gb189]? = some (.cells #[.int .i64 x190000_2, .int .i64 x190001_2, .slice Ao30 x190002_2.length co30, .slice Ao31 x190003_2.length co31, .slice Ao32 x190004_2.length co32] 25 (0, 0))) ∧ (w'.heap[s_.2.2.2]? = some (.cells #[.int .i64 0, .int .i64 0, .slice none 0 0, .slice none 0 0, .slice none 0 0] 25 (0, 0))) ∧ (w.heap.size ≤ s_.2.2.2) ∧ (w.heap.size ≤ s_.2.2.2) ∧ (gb176 ≠ s_.2.2.2) ∧ (s_.2.2.2 ≠ gb176) ∧ (gb189 ≠ s_.2.2.2) ∧ (s_.2.2.2 ≠ gb189) ∧ (Below w.heap.size w w')) ?_ ?_
           rotate_left
           ·
            intro hCont
            refine two_ (i := 5) (j := 9) (Ni := some 46) (Nj := some 9) #[true, true, true, true, true, true, false, false, false, false, false, false] #[true, true, true, true, true, false, false, false, false, true, false, false] rfl rfl rfl rfl (two_of HT_.out (by kernel_rfl)) (by decide) (by decide) (fun K hK => ?_) (fun K hK => ?_)
            ·
             skip
             refine goes_ Try.func13 (by kernel_rfl) rfl #[.agg #[.int .i64 x190000_2, .int .i64 x190001_2, .slice Ao30 x190002_2.length co30, .slice Ao31 x190003_2.length co31, .slice Ao32 x190004_2.length co32], .agg #[.int .i64 ((rd_T34 l1 x8_2).f0), .int .i64 ((rd_T34 l1 x8_2).f1), .int .i64 ((rd_T34 l1 x8_2).f2), .int .i64 ((rd_T34 l1 x8_2).f3)]] (by rfl) rfl rfl (by (try simp only [List.map_toArray, List.map_cons, List.map_nil]); first | done | rfl | (simp only [List.length_drop, List.length_take]; rfl)) ?_
             with_reducible refine (review_Apply.calls kj22 x190000_2 x190001_2 _ _ x190002_2 _ _ x190003_2 _ _ x190004_2 ((rd_T34 l1 x8_2).f0) ((rd_T34 l1 x8_2).f1) ((rd_T34 l1 x8_2).f2) ((rd_T34 l1 x8_2).f3) t191 t192 t193 t196 t199 t202 _ ?side1 ?side2 ?side3 ?side4 ?side5 ?side6 A28.out).mono ?_
             (case side1 => repeat (first | exact (Kd.R_reads' HO_190002.out).2.2 | (with_reducible refine Kd.C_alloc ?_ _) | (with_reducible refine Kd.C_drewN ?_ _) | (with_reducible refine Kd.C_drew ?_)))
             (case side2 => exact (Kd.R_reads' HO_190002.out).2.1)
             (case side3 => repeat (first | exact (Kd.R_reads' HO_190003.out).2.2 | (with_reducible refine Kd.C_alloc ?_ _) | (with_reducible refine Kd.C_drewN ?_ _) | (with_reducible refine Kd.C_drew ?_)))
             (case side4 => exact (Kd.R_reads' HO_190003.out).2.1)
             (case side5 => repeat (first | exact (Kd.R_reads' HO_190004.out).2.2 | (with_reducible refine Kd.C_alloc ?_ _) | (with_reducible refine Kd.C_drewN ?_ _) | (with_reducible refine Kd.C_drew ?_)))
             (case side6 => exact (Kd.R_reads' HO_190004.out).2.1)
             rintro e w34 ⟨v194, v197, v200, rfl, ho0, ho1, ho2, hb⟩
             refine ⟨_, rfl, ?_⟩
             have n0_ := Aside0.mk (Kd.R_mono (Kd.R_told (Kd.R_told (Kd.R_old (by (with_reducible repeat (first | apply Kd.R_alloc | apply Kd.R_drewN | apply Kd.R_drew)); exact HO_190002.out) hb) (Kd.R_base ho0)) (Kd.R_base ho1)) (fun _ h_ => h_.1))
             have n1_ := Aside0.mk (Kd.R_mono (Kd.R_told (Kd.R_told (Kd.R_old (by (with_reducible repeat (first | apply Kd.R_alloc | apply Kd.R_drewN | apply Kd.R_drew)); exact HO_190003.out) hb) (Kd.R_base ho0)) (Kd.R_base ho1)) (fun _ h_ => h_.1))
             have n2_ := Aside0.mk (Kd.R_elder' (by (with_reducible repeat (first | apply Kd.R_alloc | apply Kd.R_drewN | apply Kd.R_drew)); exact HO_190004.out) (Kd.R_base ho2) hb)
             have n3_ := Aside0.mk (Kd.R_lower (Kd.R_new' (Kd.R_new' ho0 (Kd.R_lt (by (with_reducible repeat (first | apply Kd.R_alloc | apply Kd.R_drewN | apply Kd.R_drew)); exact HO_190002.out))) (Kd.R_lt (by (with_reducible repeat (first | apply Kd.R_alloc | apply Kd.R_drewN | apply Kd.R_drew)); exact HO_190003.out))) (below_size (by repeat (first | (with_reducible first | exact HB.out | apply below_alloc | apply pw_below_drewN | apply below_drew1 | refine below_set ?_ GE176.out | refine below_set ?_ GE189.out) | exact HB.out))))
             have n4_ := Aside0.mk (Kd.R_lower (Kd.R_new' (Kd.R_new' ho1 (Kd.R_lt (by (with_reducible repeat (first | apply Kd.R_alloc | apply Kd.R_drewN | apply Kd.R_drew)); exact HO_190002.out))) (Kd.R_lt (by (with_reducible repeat (first | apply Kd.R_alloc | apply Kd.R_drewN | apply Kd.R_drew)); exact HO_190003.out))) (below_size (by repeat (first | (with_reducible first | exact HB.out | apply below_alloc | apply pw_below_drewN | apply below_drew1 | refine below_set ?_ GE176.out | refine below_set ?_ GE189.out) | exact HB.out))))
             have n5_ := Aside0.mk (Kd.R_lower (Kd.R_new' ho2 (Kd.R_lt (by (with_reducible repeat (first | apply Kd.R_alloc | apply Kd.R_drewN | apply Kd.R_drew)); exact HO_190004.out))) (below_size (by repeat (first | (with_reducible first | exact HB.out | apply below_alloc | apply pw_below_drewN | apply below_drew1 | refine below_set ?_ GE176.out | refine below_set ?_ GE189.out) | exact HB.out))))
             have n6_ := Aside0.mk (blk_below (g := gb176) (o := .cells #[.int .i64 x177000_2, .int .i64 x177001_2, .slice none 0 0, .slice none 0 0, .slice none 0 0] 25 (0, 0)) (by (with_reducible repeat (first | refine blk_drewN ?_ _ | refine blk_drew ?_ | refine blk_alloc ?_ _)); exact BK176.out) hb)
             have n7_ := Aside0.mk (blk_below (g := gb189) (o := .cells #[.int .i64 x190000_2, .int .i64 x190001_2, .slice Ao30 x190002_2.length co30, .slice Ao31 x190003_2.length co31, .slice Ao32 x190004_2.length co32] 25 (0, 0)) (by (with_reducible repeat (first | refine blk_drewN ?_ _ | refine blk_drew ?_ | refine blk_alloc ?_ _)); exact BK189.out) hb)
             have n8_ := Aside0.mk (below_step (by repeat (first | (with_reducible first | exact HB.out | apply below_alloc | apply pw_below_drewN | apply below_drew1 | refine below_set ?_ GE176.out | refine below_set ?_ GE189.out) | exact HB.out)) hb)
             clear HO_190002
             clear HO_190003
             clear HO_190004
             clear BK176
             clear BK189
             clear HB
             have HO_190002 := n0_
             have HO_190003 := n1_
             have HO_190004 := n2_
             have HO195 := n3_
             have HO198 := n4_
             have HO201 := n5_
             have BK176 := n6_
             have BK189 := n7_
             have HB := n8_
             clear n0_ n1_ n2_ n3_ n4_ n5_ n6_ n7_ n8_
             (try clear hb)
             (try clear hb2)
             (try clear hk)
             (try clear hi)
             (try clear ho0)
             (try clear ho1)
             (try clear ho2)
             refine hK.out _ _ ⟨(blk_cell BK189.out 0).trans rfl, (blk_cell BK189.out 1).trans rfl, (blk_cell BK189.out 2).trans rfl, (blk_cell BK189.out 3).trans rfl, (blk_cell BK189.out 4).trans rfl, ((HB.out.cell (World.block_lt_of_cell? w _ hw190_0)).trans hw190_0), ((HB.out.cell (World.block_lt_of_cell? w _ hw190_1)).trans hw190_1), ((HB.out.cell (World.block_lt_of_cell? w _ hw190_2)).trans hw190_2), ((HB.out.cell (World.block_lt_of_cell? w _ hw190_3)).trans hw190_3)⟩ (fun hHeld => ?_)
             clear hK K
             refine norm_ (a' := ?_) ?_ ?_
             rotate_left
             ·
              show Act.put _ (some 46) _ = _
              simp only [Act.put, List.setIfInBounds_toArray, List.set_cons_zero, List.set_cons_succ, i64_w, i32_w]
              rfl
             refine pure_ (i := 6) (N := some 40) (v := ?_) (a' := ?_) #[true, true, true, true, true, true, true, false, false, false, false, false] rfl rfl (any_of HT_.out (by kernel_rfl)) (fun _ _ _ h => h) (Or.inl ⟨by rfl, ?_⟩) ?_ ?_
             rotate_left
             ·
              intro w'
              go_simp
              with_reducible rfl
             rotate_left
             ·
              simp only [Act.put, List.setIfInBounds_toArray, List.set_cons_zero, List.set_cons_succ, i64_w, i32_w]
              rfl
             refine pure_ (i := 7) (N := some 47) (v := ?_) (a' := ?_) #[true, true, true, true, true, true, true, true, false, false, false, false] rfl rfl (any_of HT_.out (by kernel_rfl)) (fun _ _ _ h => h) (Or.inl ⟨by rfl, ?_⟩) ?_ ?_
             rotate_left
             ·
              intro w'
              go_simp
              with_reducible rfl
             rotate_left
             ·
              simp only [Act.put, List.setIfInBounds_toArray, List.set_cons_zero, List.set_cons_succ, i64_w, i32_w]
              rfl
             refine pure_ (i := 8) (N := some 48) (v := ?_) (a' := ?_) #[true, true, true, true, true, true, true, true, true, false, false, false] rfl rfl (any_of HT_.out (by kernel_rfl)) (fun _ _ _ h => h) (Or.inl ⟨by rfl, ?_⟩) ?_ ?_
             rotate_left
             ·
              intro w'
              go_simp
              with_reducible rfl
             rotate_left
             ·
              simp only [Act.put, List.setIfInBounds_toArray, List.set_cons_zero, List.set_cons_succ, i64_w, i32_w]
              rfl
             refine one_ (i := 9) (N := some 9) #[true, true, true, true, true, true, true, true, true, true, false, false] rfl rfl (one_of HT_.out (by kernel_rfl)) (by decide) (fun K hK => ?_)
             refine box_step ?hg (N := 9) ?hd (cs := #[.int .i64 0, .int .i64 0, .slice none 0 0, .slice none 0 0, .slice none 0 0]) (t := 25) ?hr ?_; (case hd => rfl); (case hg => rfl); (case hr => first | (go_simp; done) | (go_simp; rfl))
             intro gb203 hg w35 hbox hb
             have n0_ := Aside0.mk (Kd.R_below (by (with_reducible repeat (first | apply Kd.R_alloc | apply Kd.R_drewN | apply Kd.R_drew)); exact HO_190002.out) hb)
             have n1_ := Aside0.mk (Kd.R_below (by (with_reducible repeat (first | apply Kd.R_alloc | apply Kd.R_drewN | apply Kd.R_drew)); exact HO_190003.out) hb)
             have n2_ := Aside0.mk (Kd.R_below (by (with_reducible repeat (first | apply Kd.R_alloc | apply Kd.R_drewN | apply Kd.R_drew)); exact HO_190004.out) hb)
             have n3_ := Aside0.mk (Kd.R_below (by (with_reducible repeat (first | apply Kd.R_alloc | apply Kd.R_drewN | apply Kd.R_drew)); exact HO195.out) hb)
             have n4_ := Aside0.mk (Kd.R_below (by (with_reducible repeat (first | apply Kd.R_alloc | apply Kd.R_drewN | apply Kd.R_drew)); exact HO198.out) hb)
             have n5_ := Aside0.mk (Kd.R_below (by (with_reducible repeat (first | apply Kd.R_alloc | apply Kd.R_drewN | apply Kd.R_drew)); exact HO201.out) hb)
             have n6_ := Aside0.mk (blk_below (g := gb176) (o := .cells #[.int .i64 x177000_2, .int .i64 x177001_2, .slice none 0 0, .slice none 0 0, .slice none 0 0] 25 (0, 0)) (by (with_reducible repeat (first | refine blk_drewN ?_ _ | refine blk_drew ?_ | refine blk_alloc ?_ _)); exact BK176.out) hb)
             have n7_ := Aside0.mk (blk_below (g := gb189) (o := .cells #[.int .i64 x190000_2, .int .i64 x190001_2, .slice Ao30 x190002_2.length co30, .slice Ao31 x190003_2.length co31, .slice Ao32 x190004_2.length co32] 25 (0, 0)) (by (with_reducible repeat (first | refine blk_drewN ?_ _ | refine blk_drew ?_ | refine blk_alloc ?_ _)); exact BK189.out) hb)
             have n8_ := Aside0.mk (below_step (by repeat (first | (with_reducible first | exact HB.out | apply below_alloc | apply pw_below_drewN | apply below_drew1 | refine below_set ?_ GE176.out | refine below_set ?_ GE189.out) | exact HB.out)) hb)
             have n9_ := Aside0.mk (hbox)
             have n10_ := Aside0.mk ((by rw [hg]; exact (below_size (by repeat (first | (with_reducible first | exact HB.out | apply below_alloc | apply pw_below_drewN | apply below_drew1 | refine below_set ?_ GE176.out | refine below_set ?_ GE189.out) | exact HB.out))) : w.heap.size ≤ gb203))
             have n11_ := Aside0.mk ((by rw [hg]; exact (below_size (by repeat (first | (with_reducible first | exact HB.out | apply below_alloc | apply pw_below_drewN | apply below_drew1 | refine below_set ?_ GE176.out | refine below_set ?_ GE189.out) | exact HB.out))) : w.heap.size ≤ gb203))
             have n12_ := Aside0.mk ((by rw [hg]; exact Nat.ne_of_lt (blk_lt (g := gb176) (o := .cells #[.int .i64 x177000_2, .int .i64 x177001_2, .slice none 0 0, .slice none 0 0, .slice none 0 0] 25 (0, 0)) (by (with_reducible repeat (first | refine blk_drewN ?_ _ | refine blk_drew ?_ | refine blk_alloc ?_ _)); exact BK176.out)) : gb176 ≠ gb203))
             have n13_ := Aside0.mk ((by rw [hg]; exact Nat.ne_of_gt (blk_lt (g := gb176) (o := .cells #[.int .i64 x177000_2, .int .i64 x177001_2, .slice none 0 0, .slice none 0 0, .slice none 0 0] 25 (0, 0)) (by (with_reducible repeat (first | refine blk_drewN ?_ _ | refine blk_drew ?_ | refine blk_alloc ?_ _)); exact BK176.out)) : gb203 ≠ gb176))
             have n14_ := Aside0.mk ((by rw [hg]; exact Nat.ne_of_lt (blk_lt (g := gb189) (o := .cells #[.int .i64 x190000_2, .int .i64 x190001_2, .slice Ao30 x190002_2.length co30, .slice Ao31 x190003_2.length co31, .slice Ao32 x190004_2.length co32] 25 (0, 0)) (by (with_reducible repeat (first | refine blk_drewN ?_ _ | refine blk_drew ?_ | refine blk_alloc ?_ _)); exact BK189.out)) : gb189 ≠ gb203))
             have n15_ := Aside0.mk ((by rw [hg]; exact Nat.ne_of_gt (blk_lt (g := gb189) (o := .cells #[.int .i64 x190000_2, .int .i64 x190001_2, .slice Ao30 x190002_2.length co30, .slice Ao31 x190003_2.length co31, .slice Ao32 x190004_2.length co32] 25 (0, 0)) (by (with_reducible repeat (first | refine blk_drewN ?_ _ | refine blk_drew ?_ | refine blk_alloc ?_ _)); exact BK189.out)) : gb203 ≠ gb189))
             clear HO_190002
             clear HO_190003
             clear HO_190004
             clear HO195
             clear HO198
             clear HO201
             clear BK176
             clear BK189
             clear HB
             have HO_190002 := n0_
             have HO_190003 := n1_
             have HO_190004 := n2_
             have HO195 := n3_
             have HO198 := n4_
             have HO201 := n5_
             have BK176 := n6_
             have BK189 := n7_
             have HB := n8_
             have BK203 := n9_
             have GW203 := n10_
             have GE203 := n11_
             have NB176_203 := n12_
             have NB203_176 := n13_
             have NB189_203 := n14_
             have NB203_189 := n15_
             clear n0_ n1_ n2_ n3_ n4_ n5_ n6_ n7_ n8_ n9_ n10_ n11_ n12_ n13_ n14_ n15_
             clear hb hbox hg
             refine hK.out _ _ ⟨(blk_cell BK189.out 0).trans rfl, (blk_cell BK189.out 1).trans rfl, (blk_cell BK189.out 2).trans rfl, (blk_cell BK189.out 3).trans rfl, (blk_cell BK189.out 4).trans rfl, ((HB.out.cell (World.block_lt_of_cell? w _ hw190_0)).trans hw190_0), ((HB.out.cell (World.block_lt_of_cell? w _ hw190_1)).trans hw190_1), ((HB.out.cell (World.block_lt_of_cell? w _ hw190_2)).trans hw190_2), ((HB.out.cell (World.block_lt_of_cell? w _ hw190_3)).trans hw190_3)⟩ (fun hHeld => ?_)
             clear hK K
             refine norm_ (a' := ?_) ?_ ?_
             rotate_left
             ·
              show Act.put _ (some 9) _ = _
              simp only [Act.put, List.setIfInBounds_toArray, List.set_cons_zero, List.set_cons_succ, i64_w, i32_w]
              rfl
             exact norm_ (by simp only [putAll, Act.put, List.setIfInBounds_toArray, List.set_cons_zero, List.set_cons_succ]) (hCont (v194, v197, v200, gb203) _ ⟨hHeld, (by (with_reducible repeat (first | apply Kd.R_alloc | apply Kd.R_drewN | apply Kd.R_drew)); exact Kd.R_mono HO195.out (fun _ hk => ⟨hk.1.1, ⟨hk.1.2, hk.2⟩⟩)), (by (with_reducible repeat (first | apply Kd.R_alloc | apply Kd.R_drewN | apply Kd.R_drew)); exact Kd.R_mono HO198.out (fun _ hk => ⟨hk.1.1, ⟨hk.1.2, hk.2⟩⟩)), (by (with_reducible repeat (first | apply Kd.R_alloc | apply Kd.R_drewN | apply Kd.R_drew)); exact Kd.R_mono HO201.out (fun _ hk => hk.2)), (by (with_reducible repeat (first | apply Kd.R_alloc | apply Kd.R_drewN | apply Kd.R_drew)); exact Kd.R_mono HO_190002.out (fun _ hk => ⟨hk.1.2, ⟨hk.2, hk.1.1⟩⟩)), (by (with_reducible repeat (first | apply Kd.R_alloc | apply Kd.R_drewN | apply Kd.R_drew)); exact Kd.R_mono HO_190003.out (fun _ hk => ⟨hk.1.2, ⟨hk.2, hk.1.1⟩⟩)), (by (with_reducible repeat (first | apply Kd.R_alloc | apply Kd.R_drewN | apply Kd.R_drew)); exact Kd.R_mono HO_190004.out (fun _ hk => hk.2)), (by (with_reducible repeat (first | refine blk_drewN ?_ _ | refine blk_drew ?_ | refine blk_alloc ?_ _)); exact BK176.out), (by (with_reducible repeat (first | refine blk_drewN ?_ _ | refine blk_drew ?_ | refine blk_alloc ?_ _)); exact BK189.out), (by (with_reducible repeat (first | refine blk_drewN ?_ _ | refine blk_drew ?_ | refine blk_alloc ?_ _)); exact BK203.out), GW203.out, GE203.out, NB176_203.out, NB203_176.out, NB189_203.out, NB203_189.out, (by repeat (first | (with_reducible first | exact HB.out | apply below_alloc | apply pw_below_drewN | apply below_drew1 | refine below_set ?_ GE176.out | refine below_set ?_ GE189.out | refine below_set ?_ GE203.out) | exact HB.out))⟩)
            ·
             skip
             refine box_step ?hg (N := 9) ?hd (cs := #[.int .i64 0, .int .i64 0, .slice none 0 0, .slice none 0 0, .slice none 0 0]) (t := 25) ?hr ?_; (case hd => rfl); (case hg => rfl); (case hr => first | (go_simp; done) | (go_simp; rfl))
             intro gb203 hg w34 hbox hb
             have n0_ := Aside0.mk (Kd.R_below (by (with_reducible repeat (first | apply Kd.R_alloc | apply Kd.R_drewN | apply Kd.R_drew)); exact HO_190002.out) hb)
             have n1_ := Aside0.mk (Kd.R_below (by (with_reducible repeat (first | apply Kd.R_alloc | apply Kd.R_drewN | apply Kd.R_drew)); exact HO_190003.out) hb)
             have n2_ := Aside0.mk (Kd.R_below (by (with_reducible repeat (first | apply Kd.R_alloc | apply Kd.R_drewN | apply Kd.R_drew)); exact HO_190004.out) hb)
             have n3_ := Aside0.mk (blk_below (g := gb176) (o := .cells #[.int .i64 x177000_2, .int .i64 x177001_2, .slice none 0 0, .slice none 0 0, .slice none 0 0] 25 (0, 0)) (by (with_reducible repeat (first | refine blk_drewN ?_ _ | refine blk_drew ?_ | refine blk_alloc ?_ _)); exact BK176.out) hb)
             have n4_ := Aside0.mk (blk_below (g := gb189) (o := .cells #[.int .i64 x190000_2, .int .i64 x190001_2, .slice Ao30 x190002_2.length co30, .slice Ao31 x190003_2.length co31, .slice Ao32 x190004_2.length co32] 25 (0, 0)) (by (with_reducible repeat (first | refine blk_drewN ?_ _ | refine blk_drew ?_ | refine blk_alloc ?_ _)); exact BK189.out) hb)
             have n5_ := Aside0.mk (below_step (by repeat (first | (with_reducible first | exact HB.out | apply below_alloc | apply pw_below_drewN | apply below_drew1 | refine below_set ?_ GE176.out | refine below_set ?_ GE189.out) | exact HB.out)) hb)
             have n6_ := Aside0.mk (hbox)
             have n7_ := Aside0.mk ((by rw [hg]; exact (below_size (by repeat (first | (with_reducible first | exact HB.out | apply below_alloc | apply pw_below_drewN | apply below_drew1 | refine below_set ?_ GE176.out | refine below_set ?_ GE189.out) | exact HB.out))) : w.heap.size ≤ gb203))
             have n8_ := Aside0.mk ((by rw [hg]; exact (below_size (by repeat (first | (with_reducible first | exact HB.out | apply below_alloc | apply pw_below_drewN | apply below_drew1 | refine below_set ?_ GE176.out | refine below_set ?_ GE189.out) | exact HB.out))) : w.heap.size ≤ gb203))
             have n9_ := Aside0.mk ((by rw [hg]; exact Nat.ne_of_lt (blk_lt (g := gb176) (o := .cells #[.int .i64 x177000_2, .int .i64 x177001_2, .slice none 0 0, .slice none 0 0, .slice none 0 0] 25 (0, 0)) (by (with_reducible repeat (first | refine blk_drewN ?_ _ | refine blk_drew ?_ | refine blk_alloc ?_ _)); exact BK176.out)) : gb176 ≠ gb203))
             have n10_ := Aside0.mk ((by rw [hg]; exact Nat.ne_of_gt (blk_lt (g := gb176) (o := .cells #[.int .i64 x177000_2, .int .i64 x177001_2, .slice none 0 0, .slice none 0 0, .slice none 0 0] 25 (0, 0)) (by (with_reducible repeat (first | refine blk_drewN ?_ _ | refine blk_drew ?_ | refine blk_alloc ?_ _)); exact BK176.out)) : gb203 ≠ gb176))
             have n11_ := Aside0.mk ((by rw [hg]; exact Nat.ne_of_lt (blk_lt (g := gb189) (o := .cells #[.int .i64 x190000_2, .int .i64 x190001_2, .slice Ao30 x190002_2.length co30, .slice Ao31 x190003_2.length co31, .slice Ao32 x190004_2.length co32] 25 (0, 0)) (by (with_reducible repeat (first | refine blk_drewN ?_ _ | refine blk_drew ?_ | refine blk_alloc ?_ _)); exact BK189.out)) : gb189 ≠ gb203))
             have n12_ := Aside0.mk ((by rw [hg]; exact Nat.ne_of_gt (blk_lt (g := gb189) (o := .cells #[.int .i64 x190000_2, .int .i64 x190001_2, .slice Ao30 x190002_2.length co30, .slice Ao31 x190003_2.length co31, .slice Ao32 x190004_2.length co32] 25 (0, 0)) (by (with_reducible repeat (first | refine blk_drewN ?_ _ | refine blk_drew ?_ | refine blk_alloc ?_ _)); exact BK189.out)) : gb203 ≠ gb189))
             clear HO_190002
             clear HO_190003
             clear HO_190004
             clear BK176
             clear BK189
             clear HB
             have HO_190002 := n0_
             have HO_190003 := n1_
             have HO_190004 := n2_
             have BK176 := n3_
             have BK189 := n4_
             have HB := n5_
             have BK203 := n6_
             have GW203 := n7_
             have GE203 := n8_
             have NB176_203 := n9_
             have NB203_176 := n10_
             have NB189_203 := n11_
             have NB203_189 := n12_
             clear n0_ n1_ n2_ n3_ n4_ n5_ n6_ n7_ n8_ n9_ n10_ n11_ n12_
             clear hb hbox hg
             refine hK.out _ _ ⟨(blk_cell BK189.out 0).trans rfl, (blk_cell BK189.out 1).trans rfl, (blk_cell BK189.out 2).trans rfl, (blk_cell BK189.out 3).trans rfl, (blk_cell BK189.out 4).trans rfl, ((HB.out.cell (World.block_lt_of_cell? w _ hw190_0)).trans hw190_0), ((HB.out.cell (World.block_lt_of_cell? w _ hw190_1)).trans hw190_1), ((HB.out.cell (World.block_lt_of_cell? w _ hw190_2)).trans hw190_2), ((HB.out.cell (World.block_lt_of_cell? w _ hw190_3)).trans hw190_3)⟩ (fun hHeld => ?_)
             clear hK K
             refine norm_ (a' := ?_) ?_ ?_
             rotate_left
             ·
              show Act.put _ (some 9) _ = _
              simp only [Act.put, List.setIfInBounds_toArray, List.set_cons_zero, List.set_cons_succ, i64_w, i32_w]
              rfl
             refine one_ (i := 5) (N := some 46) #[true, true, true, true, true, true, false, false, false, true, false, false] rfl rfl (one_of HT_.out (by kernel_rfl)) (by decide) (fun K hK => ?_)
             refine goes_ Try.func13 (by kernel_rfl) rfl #[.agg #[.int .i64 x190000_2, .int .i64 x190001_2, .slice Ao30 x190002_2.length co30, .slice Ao31 x190003_2.length co31, .slice Ao32 x190004_2.length co32], .agg #[.int .i64 ((rd_T34 l1 x8_2).f0), .int .i64 ((rd_T34 l1 x8_2).f1), .int .i64 ((rd_T34 l1 x8_2).f2), .int .i64 ((rd_T34 l1 x8_2).f3)]] (by rfl) rfl rfl (by (try simp only [List.map_toArray, List.map_cons, List.map_nil]); first | done | rfl | (simp only [List.length_drop, List.length_take]; rfl)) ?_
             with_reducible refine (review_Apply.calls kj22 x190000_2 x190001_2 _ _ x190002_2 _ _ x190003_2 _ _ x190004_2 ((rd_T34 l1 x8_2).f0) ((rd_T34 l1 x8_2).f1) ((rd_T34 l1 x8_2).f2) ((rd_T34 l1 x8_2).f3) t191 t192 t193 t196 t199 t202 _ ?side1 ?side2 ?side3 ?side4 ?side5 ?side6 A28.out).mono ?_
             (case side1 => repeat (first | exact (Kd.R_reads' HO_190002.out).2.2 | (with_reducible refine Kd.C_alloc ?_ _) | (with_reducible refine Kd.C_drewN ?_ _) | (with_reducible refine Kd.C_drew ?_)))
             (case side2 => exact (Kd.R_reads' HO_190002.out).2.1)
             (case side3 => repeat (first | exact (Kd.R_reads' HO_190003.out).2.2 | (with_reducible refine Kd.C_alloc ?_ _) | (with_reducible refine Kd.C_drewN ?_ _) | (with_reducible refine Kd.C_drew ?_)))
             (case side4 => exact (Kd.R_reads' HO_190003.out).2.1)
             (case side5 => repeat (first | exact (Kd.R_reads' HO_190004.out).2.2 | (with_reducible refine Kd.C_alloc ?_ _) | (with_reducible refine Kd.C_drewN ?_ _) | (with_reducible refine Kd.C_drew ?_)))
             (case side6 => exact (Kd.R_reads' HO_190004.out).2.1)
             rintro e w35 ⟨v194, v197, v200, rfl, ho0, ho1, ho2, hb⟩
             refine ⟨_, rfl, ?_⟩
             have n0_ := Aside0.mk (Kd.R_mono (Kd.R_told (Kd.R_told (Kd.R_old (by (with_reducible repeat (first | apply Kd.R_alloc | apply Kd.R_drewN | apply Kd.R_drew)); exact HO_190002.out) hb) (Kd.R_base ho0)) (Kd.R_base ho1)) (fun _ h_ => h_.1))
             have n1_ := Aside0.mk (Kd.R_mono (Kd.R_told (Kd.R_told (Kd.R_old (by (with_reducible repeat (first | apply Kd.R_alloc | apply Kd.R_drewN | apply Kd.R_drew)); exact HO_190003.out) hb) (Kd.R_base ho0)) (Kd.R_base ho1)) (fun _ h_ => h_.1))
             have n2_ := Aside0.mk (Kd.R_elder' (by (with_reducible repeat (first | apply Kd.R_alloc | apply Kd.R_drewN | apply Kd.R_drew)); exact HO_190004.out) (Kd.R_base ho2) hb)
             have n3_ := Aside0.mk (Kd.R_lower (Kd.R_new' (Kd.R_new' ho0 (Kd.R_lt (by (with_reducible repeat (first | apply Kd.R_alloc | apply Kd.R_drewN | apply Kd.R_drew)); exact HO_190002.out))) (Kd.R_lt (by (with_reducible repeat (first | apply Kd.R_alloc | apply Kd.R_drewN | apply Kd.R_drew)); exact HO_190003.out))) (below_size (by repeat (first | (with_reducible first | exact HB.out | apply below_alloc | apply pw_below_drewN | apply below_drew1 | refine below_set ?_ GE176.out | refine below_set ?_ GE189.out | refine below_set ?_ GE203.out) | exact HB.out))))
             have n4_ := Aside0.mk (Kd.R_lower (Kd.R_new' (Kd.R_new' ho1 (Kd.R_lt (by (with_reducible repeat (first | apply Kd.R_alloc | apply Kd.R_drewN | apply Kd.R_drew)); exact HO_190002.out))) (Kd.R_lt (by (with_reducible repeat (first | apply Kd.R_alloc | apply Kd.R_drewN | apply Kd.R_drew)); exact HO_190003.out))) (below_size (by repeat (first | (with_reducible first | exact HB.out | apply below_alloc | apply pw_below_drewN | apply below_drew1 | refine below_set ?_ GE176.out | refine below_set ?_ GE189.out | refine below_set ?_ GE203.out) | exact HB.out))))
             have n5_ := Aside0.mk (Kd.R_lower (Kd.R_new' ho2 (Kd.R_lt (by (with_reducible repeat (first | apply Kd.R_alloc | apply Kd.R_drewN | apply Kd.R_drew)); exact HO_190004.out))) (below_size (by repeat (first | (with_reducible first | exact HB.out | apply below_alloc | apply pw_below_drewN | apply below_drew1 | refine below_set ?_ GE176.out | refine below_set ?_ GE189.out | refine below_set ?_ GE203.out) | exact HB.out))))
             have n6_ := Aside0.mk (blk_below (g := gb176) (o := .cells #[.int .i64 x177000_2, .int .i64 x177001_2, .slice none 0 0, .slice none 0 0, .slice none 0 0] 25 (0, 0)) (by (with_reducible repeat (first | refine blk_drewN ?_ _ | refine blk_drew ?_ | refine blk_alloc ?_ _)); exact BK176.out) hb)
             have n7_ := Aside0.mk (blk_below (g := gb189) (o := .cells #[.int .i64 x190000_2, .int .i64 x190001_2, .slice Ao30 x190002_2.length co30, .slice Ao31 x190003_2.length co31, .slice Ao32 x190004_2.length co32] 25 (0, 0)) (by (with_reducible repeat (first | refine blk_drewN ?_ _ | refine blk_drew ?_ | refine blk_alloc ?_ _)); exact BK189.out) hb)
             have n8_ := Aside0.mk (blk_below (g := gb203) (o := .cells #[.int .i64 0, .int .i64 0, .slice none 0 0, .slice none 0 0, .slice none 0 0] 25 (0, 0)) (by (with_reducible repeat (first | refine blk_drewN ?_ _ | refine blk_drew ?_ | refine blk_alloc ?_ _)); exact BK203.out) hb)
             have n9_ := Aside0.mk (below_step (by repeat (first | (with_reducible first | exact HB.out | apply below_alloc | apply pw_below_drewN | apply below_drew1 | refine below_set ?_ GE176.out | refine below_set ?_ GE189.out | refine below_set ?_ GE203.out) | exact HB.out)) hb)
             clear HO_190002
             clear HO_190003
             clear HO_190004
             clear BK176
             clear BK189
             clear BK203
             clear HB
             have HO_190002 := n0_
             have HO_190003 := n1_
             have HO_190004 := n2_
             have HO195 := n3_
             have HO198 := n4_
             have HO201 := n5_
             have BK176 := n6_
             have BK189 := n7_
             have BK203 := n8_
             have HB := n9_
             clear n0_ n1_ n2_ n3_ n4_ n5_ n6_ n7_ n8_ n9_
             (try clear hb)
             (try clear hb2)
             (try clear hk)
             (try clear hi)
             (try clear ho0)
             (try clear ho1)
             (try clear ho2)
             refine hK.out _ _ ⟨(blk_cell BK189.out 0).trans rfl, (blk_cell BK189.out 1).trans rfl, (blk_cell BK189.out 2).trans rfl, (blk_cell BK189.out 3).trans rfl, (blk_cell BK189.out 4).trans rfl, ((HB.out.cell (World.block_lt_of_cell? w _ hw190_0)).trans hw190_0), ((HB.out.cell (World.block_lt_of_cell? w _ hw190_1)).trans hw190_1), ((HB.out.cell (World.block_lt_of_cell? w _ hw190_2)).trans hw190_2), ((HB.out.cell (World.block_lt_of_cell? w _ hw190_3)).trans hw190_3)⟩ (fun hHeld => ?_)
             clear hK K
             refine norm_ (a' := ?_) ?_ ?_
             rotate_left
             ·
              show Act.put _ (some 46) _ = _
              simp only [Act.put, List.setIfInBounds_toArray, List.set_cons_zero, List.set_cons_succ, i64_w, i32_w]
              rfl
             refine pure_ (i := 6) (N := some 40) (v := ?_) (a' := ?_) #[true, true, true, true, true, true, true, false, false, true, false, false] rfl rfl (any_of HT_.out (by kernel_rfl)) (fun _ _ _ h => h) (Or.inl ⟨by rfl, ?_⟩) ?_ ?_
             rotate_left
             ·
              intro w'
              go_simp
              with_reducible rfl
             rotate_left
             ·
              simp only [Act.put, List.setIfInBounds_toArray, List.set_cons_zero, List.set_cons_succ, i64_w, i32_w]
              rfl
             refine pure_ (i := 7) (N := some 47) (v := ?_) (a' := ?_) #[true, true, true, true, true, true, true, true, false, true, false, false] rfl rfl (any_of HT_.out (by kernel_rfl)) (fun _ _ _ h => h) (Or.inl ⟨by rfl, ?_⟩) ?_ ?_
             rotate_left
             ·
              intro w'
              go_simp
              with_reducible rfl
             rotate_left
             ·
              simp only [Act.put, List.setIfInBounds_toArray, List.set_cons_zero, List.set_cons_succ, i64_w, i32_w]
              rfl
             refine pure_ (i := 8) (N := some 48) (v := ?_) (a' := ?_) #[true, true, true, true, true, true, true, true, true, true, false, false] rfl rfl (any_of HT_.out (by kernel_rfl)) (fun _ _ _ h => h) (Or.inl ⟨by rfl, ?_⟩) ?_ ?_
             rotate_left
             ·
              intro w'
              go_simp
              with_reducible rfl
             rotate_left
             ·
              simp only [Act.put, List.setIfInBounds_toArray, List.set_cons_zero, List.set_cons_succ, i64_w, i32_w]
              rfl
             exact norm_ (by simp only [putAll, Act.put, List.setIfInBounds_toArray, List.set_cons_zero, List.set_cons_succ]) (hCont (v194, v197, v200, gb203) _ ⟨hHeld, (by (with_reducible repeat (first | apply Kd.R_alloc | apply Kd.R_drewN | apply Kd.R_drew)); exact Kd.R_mono HO195.out (fun _ hk => ⟨hk.1.1, ⟨hk.1.2, hk.2⟩⟩)), (by (with_reducible repeat (first | apply Kd.R_alloc | apply Kd.R_drewN | apply Kd.R_drew)); exact Kd.R_mono HO198.out (fun _ hk => ⟨hk.1.1, ⟨hk.1.2, hk.2⟩⟩)), (by (with_reducible repeat (first | apply Kd.R_alloc | apply Kd.R_drewN | apply Kd.R_drew)); exact Kd.R_mono HO201.out (fun _ hk => hk.2)), (by (with_reducible repeat (first | apply Kd.R_alloc | apply Kd.R_drewN | apply Kd.R_drew)); exact Kd.R_mono HO_190002.out (fun _ hk => ⟨hk.1.2, ⟨hk.2, hk.1.1⟩⟩)), (by (with_reducible repeat (first | apply Kd.R_alloc | apply Kd.R_drewN | apply Kd.R_drew)); exact Kd.R_mono HO_190003.out (fun _ hk => ⟨hk.1.2, ⟨hk.2, hk.1.1⟩⟩)), (by (with_reducible repeat (first | apply Kd.R_alloc | apply Kd.R_drewN | apply Kd.R_drew)); exact Kd.R_mono HO_190004.out (fun _ hk => hk.2)), (by (with_reducible repeat (first | refine blk_drewN ?_ _ | refine blk_drew ?_ | refine blk_alloc ?_ _)); exact BK176.out), (by (with_reducible repeat (first | refine blk_drewN ?_ _ | refine blk_drew ?_ | refine blk_alloc ?_ _)); exact BK189.out), (by (with_reducible repeat (first | refine blk_drewN ?_ _ | refine blk_drew ?_ | refine blk_alloc ?_ _)); exact BK203.out), GW203.out, GE203.out, NB176_203.out, NB203_176.out, NB189_203.out, NB203_189.out, (by repeat (first | (with_reducible first | exact HB.out | apply below_alloc | apply pw_below_drewN | apply below_drew1 | refine below_set ?_ GE176.out | refine below_set ?_ GE189.out | refine below_set ?_ GE203.out) | exact HB.out))⟩)
           rintro ⟨v194, v197, v200, gb203⟩ w36 ⟨hS_, h0_, h1_, h2_, h3_, h4_, h5_, h6_, h7_, h8_, h9_, h10_, h11_, h12_, h13_, h14_, h15_⟩
           have n0_ : Aside0 (Kd.R (Kd.int .i64) 3 w36 w.heap.size (fun k_ => some k_ ≠ (v197 : Value).ownBlock ∧ some k_ ≠ (.slice Ao30 x190002_2.length co30 : Value).ownBlock ∧ some k_ ≠ (.slice Ao31 x190003_2.length co31 : Value).ownBlock) v194 t193) := ⟨h0_⟩
           have n1_ : Aside0 (Kd.R (Kd.int .i64) 3 w36 w.heap.size (fun k_ => some k_ ≠ (v194 : Value).ownBlock ∧ some k_ ≠ (.slice Ao30 x190002_2.length co30 : Value).ownBlock ∧ some k_ ≠ (.slice Ao31 x190003_2.length co31 : Value).ownBlock) v197 t196) := ⟨h1_⟩
           have n2_ : Aside0 (Kd.R k34 34 w36 w.heap.size (fun k_ => some k_ ≠ (.slice Ao32 x190004_2.length co32 : Value).ownBlock) v200 t199) := ⟨h2_⟩
           have n3_ : Aside0 (Kd.R (Kd.int .i64) 3 w36 w.heap.size (fun k_ => some k_ ≠ (v194 : Value).ownBlock ∧ some k_ ≠ (v197 : Value).ownBlock ∧ some k_ ≠ (.slice Ao31 x190003_2.length co31 : Value).ownBlock) (.slice Ao30 x190002_2.length co30) x190002_2) := ⟨h3_⟩
           have n4_ : Aside0 (Kd.R (Kd.int .i64) 3 w36 w.heap.size (fun k_ => some k_ ≠ (v194 : Value).ownBlock ∧ some k_ ≠ (v197 : Value).ownBlock ∧ some k_ ≠ (.slice Ao30 x190002_2.length co30 : Value).ownBlock) (.slice Ao31 x190003_2.length co31) x190003_2) := ⟨h4_⟩
           have n5_ : Aside0 (Kd.R k34 34 w36 w.heap.size (fun k_ => some k_ ≠ (v200 : Value).ownBlock) (.slice Ao32 x190004_2.length co32) x190004_2) := ⟨h5_⟩
           have n6_ : Aside0 (w36.heap[gb176]? = some (.cells #[.int .i64 x177000_2, .int .i64 x177001_2, .slice none 0 0, .slice none 0 0, .slice none 0 0] 25 (0, 0))) := ⟨h6_⟩
           have n7_ : Aside0 (w36.heap[gb189]? = some (.cells #[.int .i64 x190000_2, .int .i64 x190001_2, .slice Ao30 x190002_2.length co30, .slice Ao31 x190003_2.length co31, .slice Ao32 x190004_2.length co32] 25 (0, 0))) := ⟨h7_⟩
           have n8_ : Aside0 (w36.heap[gb203]? = some (.cells #[.int .i64 0, .int .i64 0, .slice none 0 0, .slice none 0 0, .slice none 0 0] 25 (0, 0))) := ⟨h8_⟩
           have n9_ : Aside0 (w.heap.size ≤ gb203) := ⟨h9_⟩
           have n10_ : Aside0 (w.heap.size ≤ gb203) := ⟨h10_⟩
           have n11_ : Aside0 (gb176 ≠ gb203) := ⟨h11_⟩
           have n12_ : Aside0 (gb203 ≠ gb176) := ⟨h12_⟩
           have n13_ : Aside0 (gb189 ≠ gb203) := ⟨h13_⟩
           have n14_ : Aside0 (gb203 ≠ gb189) := ⟨h14_⟩
           have n15_ : Aside0 (Below w.heap.size w w36) := ⟨h15_⟩
           clear HO_190002
           clear HO_190003
           clear HO_190004
           clear BK176
           clear BK189
           clear HB
           clear h0_ h1_ h2_ h3_ h4_ h5_ h6_ h7_ h8_ h9_ h10_ h11_ h12_ h13_ h14_ h15_
           have HO195 := n0_
           have HO198 := n1_
           have HO201 := n2_
           have HO_190002 := n3_
           have HO_190003 := n4_
           have HO_190004 := n5_
           have BK176 := n6_
           have BK189 := n7_
           have BK203 := n8_
           have GW203 := n9_
           have GE203 := n10_
           have NB176_203 := n11_
           have NB203_176 := n12_
           have NB189_203 := n13_
           have NB203_189 := n14_
           have HB := n15_
           clear n0_ n1_ n2_ n3_ n4_ n5_ n6_ n7_ n8_ n9_ n10_ n11_ n12_ n13_ n14_ n15_
           have hHeld : w36.cell? ⟨gb189, 0, none⟩ = some (.int .i64 x190000_2) ∧ w36.cell? ⟨gb189, 1, none⟩ = some (.int .i64 x190001_2) ∧ w36.cell? ⟨gb189, 2, none⟩ = some (.slice Ao30 x190002_2.length co30) ∧ w36.cell? ⟨gb189, 3, none⟩ = some (.slice Ao31 x190003_2.length co31) ∧ w36.cell? ⟨gb189, 4, none⟩ = some (.slice Ao32 x190004_2.length co32) ∧ w36.cell? (ad190.add ((x8_2).toNat * 4)) = some (.int .i64 ((rd_T34 l1 x8_2).f0)) ∧ w36.cell? ⟨(ad190.add ((x8_2).toNat * 4)).block, (ad190.add ((x8_2).toNat * 4)).off + 1, none⟩ = some (.int .i64 ((rd_T34 l1 x8_2).f1)) ∧ w36.cell? ⟨(ad190.add ((x8_2).toNat * 4)).block, (ad190.add ((x8_2).toNat * 4)).off + 2, none⟩ = some (.int .i64 ((rd_T34 l1 x8_2).f2)) ∧ w36.cell? ⟨(ad190.add ((x8_2).toNat * 4)).block, (ad190.add ((x8_2).toNat * 4)).off + 3, none⟩ = some (.int .i64 ((rd_T34 l1 x8_2).f3)) := hS_
           obtain ⟨Ao39, co39, eo39⟩ := Kd.R_slice HO195.out
           (first | subst eo39 | (injection eo39 with f1_ f2_ f3_; have f4_ := f1_.symm; have f5_ := f3_.symm; clear f1_ f2_ f3_; subst f4_; subst f5_))
           obtain ⟨Ao41, co41, eo41⟩ := Kd.R_slice HO198.out
           (first | subst eo41 | (injection eo41 with f1_ f2_ f3_; have f4_ := f1_.symm; have f5_ := f3_.symm; clear f1_ f2_ f3_; subst f4_; subst f5_))
           obtain ⟨Ao43, co43, eo43⟩ := Kd.R_slice HO201.out
           (first | subst eo43 | (injection eo43 with f1_ f2_ f3_; have f4_ := f1_.symm; have f5_ := f3_.symm; clear f1_ f2_ f3_; subst f4_; subst f5_))
           refine norm_ (a' := ?_) ?_ ?_
           rotate_left
           ·
            simp only [putAll, Act.put, List.setIfInBounds_toArray, List.set_cons_zero, List.set_cons_succ]
            rfl
           refine one_ (i := 10) (N := none) #[true, true, true, true, true, true, true, true, true, true, true, false] rfl rfl (one_of HT_.out (by kernel_rfl)) (by decide) (fun K hK => ?_)
           have hs37 : w36.cell? ⟨gb203, 0, none⟩ = some (.int .i64 0) := (blk_cell BK203.out 0).trans rfl
           have hfs37 := blk_frozen BK203.out 0
           have hns37_0 := NB176_203.out
           have hns37_1 := NB189_203.out
           have hms37_0 := NB203_176.out
           have hms37_1 := NB203_189.out
           have hs38 : w36.cell? ⟨gb203, 1, none⟩ = some (.int .i64 0) := (blk_cell BK203.out 1).trans rfl
           have hfs38 := blk_frozen BK203.out 1
           have hns38_0 := NB176_203.out
           have hns38_1 := NB189_203.out
           have hms38_0 := NB203_176.out
           have hms38_1 := NB203_189.out
           have hs40 : w36.cell? ⟨gb203, 2, none⟩ = some (.slice none 0 0) := (blk_cell BK203.out 2).trans rfl
           have hfs40 := blk_frozen BK203.out 2
           have hns40_0 := NB176_203.out
           have hns40_1 := NB189_203.out
           have hms40_0 := NB203_176.out
           have hms40_1 := NB203_189.out
           have hs42 : w36.cell? ⟨gb203, 3, none⟩ = some (.slice none 0 0) := (blk_cell BK203.out 3).trans rfl
           have hfs42 := blk_frozen BK203.out 3
           have hns42_0 := NB176_203.out
           have hns42_1 := NB189_203.out
           have hms42_0 := NB203_176.out
           have hms42_1 := NB203_189.out
           have hs44 : w36.cell? ⟨gb203, 4, none⟩ = some (.slice none 0 0) := (blk_cell BK203.out 4).trans rfl
           have hfs44 := blk_frozen BK203.out 4
           have hns44_0 := NB176_203.out
           have hns44_1 := NB189_203.out
           have hms44_0 := NB203_176.out
           have hms44_1 := NB203_189.out
           refine skip_ (w1 := ?_) (by rfl) rfl ?_ ?_
           rotate_left
           ·
            go_simp
            rfl
           refine hK.out _ _ ⟨((cell_far (p := ⟨gb203, _, none⟩) NB189_203.out _).trans (((cell_far (p := ⟨gb203, _, none⟩) NB189_203.out _).trans (((cell_far (p := ⟨gb203, _, none⟩) NB189_203.out _).trans (((cell_far (p := ⟨gb203, _, none⟩) NB189_203.out _).trans (((cell_far (p := ⟨gb203, _, none⟩) NB189_203.out _).trans (hHeld.1)))))))))), ((cell_far (p := ⟨gb203, _, none⟩) NB189_203.out _).trans (((cell_far (p := ⟨gb203, _, none⟩) NB189_203.out _).trans (((cell_far (p := ⟨gb203, _, none⟩) NB189_203.out _).trans (((cell_far (p := ⟨gb203, _, none⟩) NB189_203.out _).trans (((cell_far (p := ⟨gb203, _, none⟩) NB189_203.out _).trans (hHeld.2.1)))))))))), ((cell_far (p := ⟨gb203, _, none⟩) NB189_203.out _).trans (((cell_far (p := ⟨gb203, _, none⟩) NB189_203.out _).trans (((cell_far (p := ⟨gb203, _, none⟩) NB189_203.out _).trans (((cell_far (p := ⟨gb203, _, none⟩) NB189_203.out _).trans (((cell_far (p := ⟨gb203, _, none⟩) NB189_203.out _).trans (hHeld.2.2.1)))))))))), ((cell_far (p := ⟨gb203, _, none⟩) NB189_203.out _).trans (((cell_far (p := ⟨gb203, _, none⟩) NB189_203.out _).trans (((cell_far (p := ⟨gb203, _, none⟩) NB189_203.out _).trans (((cell_far (p := ⟨gb203, _, none⟩) NB189_203.out _).trans (((cell_far (p := ⟨gb203, _, none⟩) NB189_203.out _).trans (hHeld.2.2.2.1)))))))))), ((cell_far (p := ⟨gb203, _, none⟩) NB189_203.out _).trans (((cell_far (p := ⟨gb203, _, none⟩) NB189_203.out _).trans (((cell_far (p := ⟨gb203, _, none⟩) NB189_203.out _).trans (((cell_far (p := ⟨gb203, _, none⟩) NB189_203.out _).trans (((cell_far (p := ⟨gb203, _, none⟩) NB189_203.out _).trans (hHeld.2.2.2.2.1)))))))))), ((cell_far (p := ⟨gb203, _, none⟩) (by first | exact Nat.ne_of_lt (Nat.lt_of_lt_of_le (by have := World.block_lt_of_cell? _ _ hw190_0; first | rwa [add_block] at this | exact this) GW203.out) | (rw [add_block]; exact Nat.ne_of_lt (Nat.lt_of_lt_of_le (by have := World.block_lt_of_cell? _ _ hw190_0; first | rwa [add_block] at this | exact this) GW203.out)) | (show (Addr.add _ _).block ≠ _; rw [add_block]; exact Nat.ne_of_lt (Nat.lt_of_lt_of_le (by have := World.block_lt_of_cell? _ _ hw190_0; first | rwa [add_block] at this | exact this) GW203.out)) | (dsimp only; exact Nat.ne_of_lt (Nat.lt_of_lt_of_le (by have := World.block_lt_of_cell? _ _ hw190_0; first | rwa [add_block] at this | exact this) GW203.out))) _).trans (((cell_far (p := ⟨gb203, _, none⟩) (by first | exact Nat.ne_of_lt (Nat.lt_of_lt_of_le (by have := World.block_lt_of_cell? _ _ hw190_0; first | rwa [add_block] at this | exact this) GW203.out) | (rw [add_block]; exact Nat.ne_of_lt (Nat.lt_of_lt_of_le (by have := World.block_lt_of_cell? _ _ hw190_0; first | rwa [add_block] at this | exact this) GW203.out)) | (show (Addr.add _ _).block ≠ _; rw [add_block]; exact Nat.ne_of_lt (Nat.lt_of_lt_of_le (by have := World.block_lt_of_cell? _ _ hw190_0; first | rwa [add_block] at this | exact this) GW203.out)) | (dsimp only; exact Nat.ne_of_lt (Nat.lt_of_lt_of_le (by have := World.block_lt_of_cell? _ _ hw190_0; first | rwa [add_block] at this | exact this) GW203.out))) _).trans (((cell_far (p := ⟨gb203, _, none⟩) (by first | exact Nat.ne_of_lt (Nat.lt_of_lt_of_le (by have := World.block_lt_of_cell? _ _ hw190_0; first | rwa [add_block] at this | exact this) GW203.out) | (rw [add_block]; exact Nat.ne_of_lt (Nat.lt_of_lt_of_le (by have := World.block_lt_of_cell? _ _ hw190_0; first | rwa [add_block] at this | exact this) GW203.out)) | (show (Addr.add _ _).block ≠ _; rw [add_block]; exact Nat.ne_of_lt (Nat.lt_of_lt_of_le (by have := World.block_lt_of_cell? _ _ hw190_0; first | rwa [add_block] at this | exact this) GW203.out)) | (dsimp only; exact Nat.ne_of_lt (Nat.lt_of_lt_of_le (by have := World.block_lt_of_cell? _ _ hw190_0; first | rwa [add_block] at this | exact this) GW203.out))) _).trans (((cell_far (p := ⟨gb203, _, none⟩) (by first | exact Nat.ne_of_lt (Nat.lt_of_lt_of_le (by have := World.block_lt_of_cell? _ _ hw190_0; first | rwa [add_block] at this | exact this) GW203.out) | (rw [add_block]; exact Nat.ne_of_lt (Nat.lt_of_lt_of_le (by have := World.block_lt_of_cell? _ _ hw190_0; first | rwa [add_block] at this | exact this) GW203.out)) | (show (Addr.add _ _).block ≠ _; rw [add_block]; exact Nat.ne_of_lt (Nat.lt_of_lt_of_le (by have := World.block_lt_of_cell? _ _ hw190_0; first | rwa [add_block] at this | exact this) GW203.out)) | (dsimp only; exact Nat.ne_of_lt (Nat.lt_of_lt_of_le (by have := World.block_lt_of_cell? _ _ hw190_0; first | rwa [add_block] at this | exact this) GW203.out))) _).trans (((cell_far (p := ⟨gb203, _, none⟩) (by first | exact Nat.ne_of_lt (Nat.lt_of_lt_of_le (by have := World.block_lt_of_cell? _ _ hw190_0; first | rwa [add_block] at this | exact this) GW203.out) | (rw [add_block]; exact Nat.ne_of_lt (Nat.lt_of_lt_of_le (by have := World.block_lt_of_cell? _ _ hw190_0; first | rwa [add_block] at this | exact this) GW203.out)) | (show (Addr.add _ _).block ≠ _; rw [add_block]; exact Nat.ne_of_lt (Nat.lt_of_lt_of_le (by have := World.block_lt_of_cell? _ _ hw190_0; first | rwa [add_block] at this | exact this) GW203.out)) | (dsimp only; exact Nat.ne_of_lt (Nat.lt_of_lt_of_le (by have := World.block_lt_of_cell? _ _ hw190_0; first | rwa [add_block] at this | exact this) GW203.out))) _).trans (hHeld.2.2.2.2.2.1)))))))))), ((cell_far (p := ⟨gb203, _, none⟩) (by first | exact Nat.ne_of_lt (Nat.lt_of_lt_of_le (by have := World.block_lt_of_cell? _ _ hw190_1; first | rwa [add_block] at this | exact this) GW203.out) | (rw [add_block]; exact Nat.ne_of_lt (Nat.lt_of_lt_of_le (by have := World.block_lt_of_cell? _ _ hw190_1; first | rwa [add_block] at this | exact this) GW203.out)) | (show (Addr.add _ _).block ≠ _; rw [add_block]; exact Nat.ne_of_lt (Nat.lt_of_lt_of_le (by have := World.block_lt_of_cell? _ _ hw190_1; first | rwa [add_block] at this | exact this) GW203.out)) | (dsimp only; exact Nat.ne_of_lt (Nat.lt_of_lt_of_le (by have := World.block_lt_of_cell? _ _ hw190_1; first | rwa [add_block] at this | exact this) GW203.out))) _).trans (((cell_far (p := ⟨gb203, _, none⟩) (by first | exact Nat.ne_of_lt (Nat.lt_of_lt_of_le (by have := World.block_lt_of_cell? _ _ hw190_1; first | rwa [add_block] at this | exact this) GW203.out) | (rw [add_block]; exact Nat.ne_of_lt (Nat.lt_of_lt_of_le (by have := World.block_lt_of_cell? _ _ hw190_1; first | rwa [add_block] at this | exact this) GW203.out)) | (show (Addr.add _ _).block ≠ _; rw [add_block]; exact Nat.ne_of_lt (Nat.lt_of_lt_of_le (by have := World.block_lt_of_cell? _ _ hw190_1; first | rwa [add_block] at this | exact this) GW203.out)) | (dsimp only; exact Nat.ne_of_lt (Nat.lt_of_lt_of_le (by have := World.block_lt_of_cell? _ _ hw190_1; first | rwa [add_block] at this | exact this) GW203.out))) _).trans (((cell_far (p := ⟨gb203, _, none⟩) (by first | exact Nat.ne_of_lt (Nat.lt_of_lt_of_le (by have := World.block_lt_of_cell? _ _ hw190_1; first | rwa [add_block] at this | exact this) GW203.out) | (rw [add_block]; exact Nat.ne_of_lt (Nat.lt_of_lt_of_le (by have := World.block_lt_of_cell? _ _ hw190_1; first | rwa [add_block] at this | exact this) GW203.out)) | (show (Addr.add _ _).block ≠ _; rw [add_block]; exact Nat.ne_of_lt (Nat.lt_of_lt_of_le (by have := World.block_lt_of_cell? _ _ hw190_1; first | rwa [add_block] at this | exact this) GW203.out)) | (dsimp only; exact Nat.ne_of_lt (Nat.lt_of_lt_of_le (by have := World.block_lt_of_cell? _ _ hw190_1; first | rwa [add_block] at this | exact this) GW203.out))) _).trans (((cell_far (p := ⟨gb203, _, none⟩) (by first | exact Nat.ne_of_lt (Nat.lt_of_lt_of_le (by have := World.block_lt_of_cell? _ _ hw190_1; first | rwa [add_block] at this | exact this) GW203.out) | (rw [add_block]; exact Nat.ne_of_lt (Nat.lt_of_lt_of_le (by have := World.block_lt_of_cell? _ _ hw190_1; first | rwa [add_block] at this | exact this) GW203.out)) | (show (Addr.add _ _).block ≠ _; rw [add_block]; exact Nat.ne_of_lt (Nat.lt_of_lt_of_le (by have := World.block_lt_of_cell? _ _ hw190_1; first | rwa [add_block] at this | exact this) GW203.out)) | (dsimp only; exact Nat.ne_of_lt (Nat.lt_of_lt_of_le (by have := World.block_lt_of_cell? _ _ hw190_1; first | rwa [add_block] at this | exact this) GW203.out))) _).trans (((cell_far (p := ⟨gb203, _, none⟩) (by first | exact Nat.ne_of_lt (Nat.lt_of_lt_of_le (by have := World.block_lt_of_cell? _ _ hw190_1; first | rwa [add_block] at this | exact this) GW203.out) | (rw [add_block]; exact Nat.ne_of_lt (Nat.lt_of_lt_of_le (by have := World.block_lt_of_cell? _ _ hw190_1; first | rwa [add_block] at this | exact this) GW203.out)) | (show (Addr.add _ _).block ≠ _; rw [add_block]; exact Nat.ne_of_lt (Nat.lt_of_lt_of_le (by have := World.block_lt_of_cell? _ _ hw190_1; first | rwa [add_block] at this | exact this) GW203.out)) | (dsimp only; exact Nat.ne_of_lt (Nat.lt_of_lt_of_le (by have := World.block_lt_of_cell? _ _ hw190_1; first | rwa [add_block] at this | exact this) GW203.out))) _).trans (hHeld.2.2.2.2.2.2.1)))))))))), ((cell_far (p := ⟨gb203, _, none⟩) (by first | exact Nat.ne_of_lt (Nat.lt_of_lt_of_le (by have := World.block_lt_of_cell? _ _ hw190_2; first | rwa [add_block] at this | exact this) GW203.out) | (rw [add_block]; exact Nat.ne_of_lt (Nat.lt_of_lt_of_le (by have := World.block_lt_of_cell? _ _ hw190_2; first | rwa [add_block] at this | exact this) GW203.out)) | (show (Addr.add _ _).block ≠ _; rw [add_block]; exact Nat.ne_of_lt (Nat.lt_of_lt_of_le (by have := World.block_lt_of_cell? _ _ hw190_2; first | rwa [add_block] at this | exact this) GW203.out)) | (dsimp only; exact Nat.ne_of_lt (Nat.lt_of_lt_of_le (by have := World.block_lt_of_cell? _ _ hw190_2; first | rwa [add_block] at this | exact this) GW203.out))) _).trans (((cell_far (p := ⟨gb203, _, none⟩) (by first | exact Nat.ne_of_lt (Nat.lt_of_lt_of_le (by have := World.block_lt_of_cell? _ _ hw190_2; first | rwa [add_block] at this | exact this) GW203.out) | (rw [add_block]; exact Nat.ne_of_lt (Nat.lt_of_lt_of_le (by have := World.block_lt_of_cell? _ _ hw190_2; first | rwa [add_block] at this | exact this) GW203.out)) | (show (Addr.add _ _).block ≠ _; rw [add_block]; exact Nat.ne_of_lt (Nat.lt_of_lt_of_le (by have := World.block_lt_of_cell? _ _ hw190_2; first | rwa [add_block] at this | exact this) GW203.out)) | (dsimp only; exact Nat.ne_of_lt (Nat.lt_of_lt_of_le (by have := World.block_lt_of_cell? _ _ hw190_2; first | rwa [add_block] at this | exact this) GW203.out))) _).trans (((cell_far (p := ⟨gb203, _, none⟩) (by first | exact Nat.ne_of_lt (Nat.lt_of_lt_of_le (by have := World.block_lt_of_cell? _ _ hw190_2; first | rwa [add_block] at this | exact this) GW203.out) | (rw [add_block]; exact Nat.ne_of_lt (Nat.lt_of_lt_of_le (by have := World.block_lt_of_cell? _ _ hw190_2; first | rwa [add_block] at this | exact this) GW203.out)) | (show (Addr.add _ _).block ≠ _; rw [add_block]; exact Nat.ne_of_lt (Nat.lt_of_lt_of_le (by have := World.block_lt_of_cell? _ _ hw190_2; first | rwa [add_block] at this | exact this) GW203.out)) | (dsimp only; exact Nat.ne_of_lt (Nat.lt_of_lt_of_le (by have := World.block_lt_of_cell? _ _ hw190_2; first | rwa [add_block] at this | exact this) GW203.out))) _).trans (((cell_far (p := ⟨gb203, _, none⟩) (by first | exact Nat.ne_of_lt (Nat.lt_of_lt_of_le (by have := World.block_lt_of_cell? _ _ hw190_2; first | rwa [add_block] at this | exact this) GW203.out) | (rw [add_block]; exact Nat.ne_of_lt (Nat.lt_of_lt_of_le (by have := World.block_lt_of_cell? _ _ hw190_2; first | rwa [add_block] at this | exact this) GW203.out)) | (show (Addr.add _ _).block ≠ _; rw [add_block]; exact Nat.ne_of_lt (Nat.lt_of_lt_of_le (by have := World.block_lt_of_cell? _ _ hw190_2; first | rwa [add_block] at this | exact this) GW203.out)) | (dsimp only; exact Nat.ne_of_lt (Nat.lt_of_lt_of_le (by have := World.block_lt_of_cell? _ _ hw190_2; first | rwa [add_block] at this | exact this) GW203.out))) _).trans (((cell_far (p := ⟨gb203, _, none⟩) (by first | exact Nat.ne_of_lt (Nat.lt_of_lt_of_le (by have := World.block_lt_of_cell? _ _ hw190_2; first | rwa [add_block] at this | exact this) GW203.out) | (rw [add_block]; exact Nat.ne_of_lt (Nat.lt_of_lt_of_le (by have := World.block_lt_of_cell? _ _ hw190_2; first | rwa [add_block] at this | exact this) GW203.out)) | (show (Addr.add _ _).block ≠ _; rw [add_block]; exact Nat.ne_of_lt (Nat.lt_of_lt_of_le (by have := World.block_lt_of_cell? _ _ hw190_2; first | rwa [add_block] at this | exact this) GW203.out)) | (dsimp only; exact Nat.ne_of_lt (Nat.lt_of_lt_of_le (by have := World.block_lt_of_cell? _ _ hw190_2; first | rwa [add_block] at this | exact this) GW203.out))) _).trans (hHeld.2.2.2.2.2.2.2.1)))))))))), ((cell_far (p := ⟨gb203, _, none⟩) (by first | exact Nat.ne_of_lt (Nat.lt_of_lt_of_le (by have := World.block_lt_of_cell? _ _ hw190_3; first | rwa [add_block] at this | exact this) GW203.out) | (rw [add_block]; exact Nat.ne_of_lt (Nat.lt_of_lt_of_le (by have := World.block_lt_of_cell? _ _ hw190_3; first | rwa [add_block] at this | exact this) GW203.out)) | (show (Addr.add _ _).block ≠ _; rw [add_block]; exact Nat.ne_of_lt (Nat.lt_of_lt_of_le (by have := World.block_lt_of_cell? _ _ hw190_3; first | rwa [add_block] at this | exact this) GW203.out)) | (dsimp only; exact Nat.ne_of_lt (Nat.lt_of_lt_of_le (by have := World.block_lt_of_cell? _ _ hw190_3; first | rwa [add_block] at this | exact this) GW203.out))) _).trans (((cell_far (p := ⟨gb203, _, none⟩) (by first | exact Nat.ne_of_lt (Nat.lt_of_lt_of_le (by have := World.block_lt_of_cell? _ _ hw190_3; first | rwa [add_block] at this | exact this) GW203.out) | (rw [add_block]; exact Nat.ne_of_lt (Nat.lt_of_lt_of_le (by have := World.block_lt_of_cell? _ _ hw190_3; first | rwa [add_block] at this | exact this) GW203.out)) | (show (Addr.add _ _).block ≠ _; rw [add_block]; exact Nat.ne_of_lt (Nat.lt_of_lt_of_le (by have := World.block_lt_of_cell? _ _ hw190_3; first | rwa [add_block] at this | exact this) GW203.out)) | (dsimp only; exact Nat.ne_of_lt (Nat.lt_of_lt_of_le (by have := World.block_lt_of_cell? _ _ hw190_3; first | rwa [add_block] at this | exact this) GW203.out))) _).trans (((cell_far (p := ⟨gb203, _, none⟩) (by first | exact Nat.ne_of_lt (Nat.lt_of_lt_of_le (by have := World.block_lt_of_cell? _ _ hw190_3; first | rwa [add_block] at this | exact this) GW203.out) | (rw [add_block]; exact Nat.ne_of_lt (Nat.lt_of_lt_of_le (by have := World.block_lt_of_cell? _ _ hw190_3; first | rwa [add_block] at this | exact this) GW203.out)) | (show (Addr.add _ _).block ≠ _; rw [add_block]; exact Nat.ne_of_lt (Nat.lt_of_lt_of_le (by have := World.block_lt_of_cell? _ _ hw190_3; first | rwa [add_block] at this | exact this) GW203.out)) | (dsimp only; exact Nat.ne_of_lt (Nat.lt_of_lt_of_le (by have := World.block_lt_of_cell? _ _ hw190_3; first | rwa [add_block] at this | exact this) GW203.out))) _).trans (((cell_far (p := ⟨gb203, _, none⟩) (by first | exact Nat.ne_of_lt (Nat.lt_of_lt_of_le (by have := World.block_lt_of_cell? _ _ hw190_3; first | rwa [add_block] at this | exact this) GW203.out) | (rw [add_block]; exact Nat.ne_of_lt (Nat.lt_of_lt_of_le (by have := World.block_lt_of_cell? _ _ hw190_3; first | rwa [add_block] at this | exact this) GW203.out)) | (show (Addr.add _ _).block ≠ _; rw [add_block]; exact Nat.ne_of_lt (Nat.lt_of_lt_of_le (by have := World.block_lt_of_cell? _ _ hw190_3; first | rwa [add_block] at this | exact this) GW203.out)) | (dsimp only; exact Nat.ne_of_lt (Nat.lt_of_lt_of_le (by have := World.block_lt_of_cell? _ _ hw190_3; first | rwa [add_block] at this | exact this) GW203.out))) _).trans (((cell_far (p := ⟨gb203, _, none⟩) (by first | exact Nat.ne_of_lt (Nat.lt_of_lt_of_le (by have := World.block_lt_of_cell? _ _ hw190_3; first | rwa [add_block] at this | exact this) GW203.out) | (rw [add_block]; exact Nat.ne_of_lt (Nat.lt_of_lt_of_le (by have := World.block_lt_of_cell? _ _ hw190_3; first | rwa [add_block] at this | exact this) GW203.out)) | (show (Addr.add _ _).block ≠ _; rw [add_block]; exact Nat.ne_of_lt (Nat.lt_of_lt_of_le (by have := World.block_lt_of_cell? _ _ hw190_3; first | rwa [add_block] at this | exact this) GW203.out)) | (dsimp only; exact Nat.ne_of_lt (Nat.lt_of_lt_of_le (by have := World.block_lt_of_cell? _ _ hw190_3; first | rwa [add_block] at this | exact this) GW203.out))) _).trans (hHeld.2.2.2.2.2.2.2.2))))))))))⟩ (fun hHeld => ?_)
           clear hK K
           refine pure_ (i := 11) (N := some 10) (v := ?_) (a' := ?_) #[true, true, true, true, true, true, true, true, true, true, true, true] rfl rfl (any_of HT_.out (by kernel_rfl)) (fun _ _ _ h => h) (Or.inl ⟨by rfl, ?_⟩) ?_ ?_
           rotate_left
           ·
            intro w'
            go_simp
            with_reducible rfl
           rotate_left
           ·
            simp only [Act.put, List.setIfInBounds_toArray, List.set_cons_zero, List.set_cons_succ, i64_w, i32_w]
            rfl
           refine done_ (done_of HT_.out (by kernel_rfl)) ?_
           go_upto_region 8 with (fail)
           go_cut [58] (fun v58 wc => ∃ (kq : Nat) (x58_28 : Bool), v58 = .bool x58_28 ∧ Aside0 (examboardlaw15_perform.j3 kq l1 x8_2 t202 x58_28 x190000_2 x190001_2 x190002_2 x190003_2 x190004_2 t191 t192 t193 t196 t199 = some (r1, r2, r3, r4, r5, r6)) ∧ Aside0 (kq ≤ kj22) ∧ Aside0 (Kd.R (Kd.int .i64) 3 wc w.heap.size (fun k_ => some k_ ≠ ((.slice Ao31 x190003_2.length co31) : Value).ownBlock ∧ some k_ ≠ ((.slice Ao39 t193.length co39) : Value).ownBlock ∧ some k_ ≠ ((.slice Ao41 t196.length co41) : Value).ownBlock) (.slice Ao30 x190002_2.length co30) x190002_2) ∧ Aside0 (Kd.R (Kd.int .i64) 3 wc w.heap.size (fun k_ => some k_ ≠ ((.slice Ao30 x190002_2.length co30) : Value).ownBlock ∧ some k_ ≠ ((.slice Ao39 t193.length co39) : Value).ownBlock ∧ some k_ ≠ ((.slice Ao41 t196.length co41) : Value).ownBlock) (.slice Ao31 x190003_2.length co31) x190003_2) ∧ Aside0 (Kd.R k34 34 wc w.heap.size (fun k_ => some k_ ≠ ((.slice Ao43 t199.length co43) : Value).ownBlock) (.slice Ao32 x190004_2.length co32) x190004_2) ∧ Aside0 (Kd.R (Kd.int .i64) 3 wc w.heap.size (fun k_ => some k_ ≠ ((.slice Ao30 x190002_2.length co30) : Value).ownBlock ∧ some k_ ≠ ((.slice Ao31 x190003_2.length co31) : Value).ownBlock ∧ some k_ ≠ ((.slice Ao41 t196.length co41) : Value).ownBlock) (.slice Ao39 t193.length co39) t193) ∧ Aside0 (Kd.R (Kd.int .i64) 3 wc w.heap.size (fun k_ => some k_ ≠ ((.slice Ao30 x190002_2.length co30) : Value).ownBlock ∧ some k_ ≠ ((.slice Ao31 x190003_2.length co31) : Value).ownBlock ∧ some k_ ≠ ((.slice Ao39 t193.length co39) : Value).ownBlock) (.slice Ao41 t196.length co41) t196) ∧ Aside0 (Kd.R k34 34 wc w.heap.size (fun k_ => some k_ ≠ ((.slice Ao32 x190004_2.length co32) : Value).ownBlock) (.slice Ao43 t199.length co43) t199) ∧ Aside0 (wc.heap[gb176]? = some (.cells #[.int .i64 x177000_2, .int .i64 x177001_2, (.slice none 0 0), (.slice none 0 0), (.slice none 0 0)] 25 (0, 0))) ∧ Aside0 (wc.heap[gb189]? = some (.cells #[.int .i64 x190000_2, .int .i64 x190001_2, (.slice Ao30 x190002_2.length co30), (.slice Ao31 x190003_2.length co31), (.slice Ao32 x190004_2.length co32)] 25 (0, 0))) ∧ Aside0 (wc.heap[gb203]? = some (.cells #[.int .i64 t191, .int .i64 t192, (.slice Ao39 t193.length co39), (.slice Ao41 t196.length co41), (.slice Ao43 t199.length co43)] 25 (0, 0))) ∧ Aside0 (Below w.heap.size w wc))
           case first =>
            have H := HC29.out
            clear HC29
            replace H := Option.bind_eq_some_iff.mp H
            obtain ⟨t205, A450, H⟩ := H
            replace H : (examboardlaw15_perform.j3 kj22 l1 x8_2 t202 ((t202 == 0) != (t205 == 0)) x190000_2 x190001_2 x190002_2 x190003_2 x190004_2 t191 t192 t193 t196 t199) = some (r1, r2, r3, r4, r5, r6) := H
            have A45 := Aside0.mk A450
            clear A450
            have H' := Aside0.mk H
            clear H
            try go_wp2
            have n0_ : Aside0 (Kd.R (Kd.int .i64) 3 (((((w36.setCell ⟨gb203, 0, none⟩ (.int .i64 t191)).setCell ⟨gb203, 1, none⟩ (.int .i64 t192)).setCell ⟨gb203, 2, none⟩ (.slice Ao39 t193.length co39)).setCell ⟨gb203, 3, none⟩ (.slice Ao41 t196.length co41)).setCell ⟨gb203, 4, none⟩ (.slice Ao43 t199.length co43)) w.heap.size (fun k_ => some k_ ≠ (.slice Ao31 x190003_2.length co31 : Value).ownBlock ∧ some k_ ≠ (.slice Ao39 t193.length co39 : Value).ownBlock ∧ some k_ ≠ (.slice Ao41 t196.length co41 : Value).ownBlock) (.slice Ao30 x190002_2.length co30) x190002_2) := ⟨by (with_reducible repeat (first | apply Kd.R_alloc | apply Kd.R_drewN | apply Kd.R_drew)); exact Kd.R_mono (Kd.R_far (p := ⟨gb203, 4, none⟩) (Kd.R_far (p := ⟨gb203, 3, none⟩) (Kd.R_far (p := ⟨gb203, 2, none⟩) (Kd.R_far (p := ⟨gb203, 1, none⟩) (Kd.R_far (p := ⟨gb203, 0, none⟩) (Kd.R_types HO_190002.out BK203.out (by decide)) (fun _ hk => hk.2) (.int .i64 t191)) (fun _ hk => hk.2) (.int .i64 t192)) (fun _ hk => hk.2) (.slice Ao39 t193.length co39)) (fun _ hk => hk.2) (.slice Ao41 t196.length co41)) (fun _ hk => hk.2) (.slice Ao43 t199.length co43)) (fun _ hk => ⟨hk.1.2.2, ⟨hk.1.1, hk.1.2.1⟩⟩)⟩
            have n1_ : Aside0 (Kd.R (Kd.int .i64) 3 (((((w36.setCell ⟨gb203, 0, none⟩ (.int .i64 t191)).setCell ⟨gb203, 1, none⟩ (.int .i64 t192)).setCell ⟨gb203, 2, none⟩ (.slice Ao39 t193.length co39)).setCell ⟨gb203, 3, none⟩ (.slice Ao41 t196.length co41)).setCell ⟨gb203, 4, none⟩ (.slice Ao43 t199.length co43)) w.heap.size (fun k_ => some k_ ≠ (.slice Ao30 x190002_2.length co30 : Value).ownBlock ∧ some k_ ≠ (.slice Ao39 t193.length co39 : Value).ownBlock ∧ some k_ ≠ (.slice Ao41 t196.length co41 : Value).ownBlock) (.slice Ao31 x190003_2.length co31) x190003_2) := ⟨by (with_reducible repeat (first | apply Kd.R_alloc | apply Kd.R_drewN | apply Kd.R_drew)); exact Kd.R_mono (Kd.R_far (p := ⟨gb203, 4, none⟩) (Kd.R_far (p := ⟨gb203, 3, none⟩) (Kd.R_far (p := ⟨gb203, 2, none⟩) (Kd.R_far (p := ⟨gb203, 1, none⟩) (Kd.R_far (p := ⟨gb203, 0, none⟩) (Kd.R_types HO_190003.out BK203.out (by decide)) (fun _ hk => hk.2) (.int .i64 t191)) (fun _ hk => hk.2) (.int .i64 t192)) (fun _ hk => hk.2) (.slice Ao39 t193.length co39)) (fun _ hk => hk.2) (.slice Ao41 t196.length co41)) (fun _ hk => hk.2) (.slice Ao43 t199.length co43)) (fun _ hk => ⟨hk.1.2.2, ⟨hk.1.1, hk.1.2.1⟩⟩)⟩
            have n2_ : Aside0 (Kd.R k34 34 (((((w36.setCell ⟨gb203, 0, none⟩ (.int .i64 t191)).setCell ⟨gb203, 1, none⟩ (.int .i64 t192)).setCell ⟨gb203, 2, none⟩ (.slice Ao39 t193.length co39)).setCell ⟨gb203, 3, none⟩ (.slice Ao41 t196.length co41)).setCell ⟨gb203, 4, none⟩ (.slice Ao43 t199.length co43)) w.heap.size (fun k_ => some k_ ≠ (.slice Ao43 t199.length co43 : Value).ownBlock) (.slice Ao32 x190004_2.length co32) x190004_2) := ⟨by (with_reducible repeat (first | apply Kd.R_alloc | apply Kd.R_drewN | apply Kd.R_drew)); exact Kd.R_mono (Kd.R_far (p := ⟨gb203, 4, none⟩) (Kd.R_far (p := ⟨gb203, 3, none⟩) (Kd.R_far (p := ⟨gb203, 2, none⟩) (Kd.R_far (p := ⟨gb203, 1, none⟩) (Kd.R_far (p := ⟨gb203, 0, none⟩) (Kd.R_types HO_190004.out BK203.out (by decide)) (fun _ hk => hk.2) (.int .i64 t191)) (fun _ hk => hk.2) (.int .i64 t192)) (fun _ hk => hk.2) (.slice Ao39 t193.length co39)) (fun _ hk => hk.2) (.slice Ao41 t196.length co41)) (fun _ hk => hk.2) (.slice Ao43 t199.length co43)) (fun _ hk => hk.1)⟩
            have n3_ : Aside0 (Kd.R (Kd.int .i64) 3 (((((w36.setCell ⟨gb203, 0, none⟩ (.int .i64 t191)).setCell ⟨gb203, 1, none⟩ (.int .i64 t192)).setCell ⟨gb203, 2, none⟩ (.slice Ao39 t193.length co39)).setCell ⟨gb203, 3, none⟩ (.slice Ao41 t196.length co41)).setCell ⟨gb203, 4, none⟩ (.slice Ao43 t199.length co43)) w.heap.size (fun k_ => some k_ ≠ (.slice Ao30 x190002_2.length co30 : Value).ownBlock ∧ some k_ ≠ (.slice Ao31 x190003_2.length co31 : Value).ownBlock ∧ some k_ ≠ (.slice Ao41 t196.length co41 : Value).ownBlock) (.slice Ao39 t193.length co39) t193) := ⟨by (with_reducible repeat (first | apply Kd.R_alloc | apply Kd.R_drewN | apply Kd.R_drew)); exact Kd.R_mono (Kd.R_far (p := ⟨gb203, 4, none⟩) (Kd.R_far (p := ⟨gb203, 3, none⟩) (Kd.R_far (p := ⟨gb203, 2, none⟩) (Kd.R_far (p := ⟨gb203, 1, none⟩) (Kd.R_far (p := ⟨gb203, 0, none⟩) (Kd.R_types HO195.out BK203.out (by decide)) (fun _ hk => hk.2) (.int .i64 t191)) (fun _ hk => hk.2) (.int .i64 t192)) (fun _ hk => hk.2) (.slice Ao39 t193.length co39)) (fun _ hk => hk.2) (.slice Ao41 t196.length co41)) (fun _ hk => hk.2) (.slice Ao43 t199.length co43)) (fun _ hk => ⟨hk.1.2.1, ⟨hk.1.2.2, hk.1.1⟩⟩)⟩
            have n4_ : Aside0 (Kd.R (Kd.int .i64) 3 (((((w36.setCell ⟨gb203, 0, none⟩ (.int .i64 t191)).setCell ⟨gb203, 1, none⟩ (.int .i64 t192)).setCell ⟨gb203, 2, none⟩ (.slice Ao39 t193.length co39)).setCell ⟨gb203, 3, none⟩ (.slice Ao41 t196.length co41)).setCell ⟨gb203, 4, none⟩ (.slice Ao43 t199.length co43)) w.heap.size (fun k_ => some k_ ≠ (.slice Ao30 x190002_2.length co30 : Value).ownBlock ∧ some k_ ≠ (.slice Ao31 x190003_2.length co31 : Value).ownBlock ∧ some k_ ≠ (.slice Ao39 t193.length co39 : Value).ownBlock) (.slice Ao41 t196.length co41) t196) := ⟨by (with_reducible repeat (first | apply Kd.R_alloc | apply Kd.R_drewN | apply Kd.R_drew)); exact Kd.R_mono (Kd.R_far (p := ⟨gb203, 4, none⟩) (Kd.R_far (p := ⟨gb203, 3, none⟩) (Kd.R_far (p := ⟨gb203, 2, none⟩) (Kd.R_far (p := ⟨gb203, 1, none⟩) (Kd.R_far (p := ⟨gb203, 0, none⟩) (Kd.R_types HO198.out BK203.out (by decide)) (fun _ hk => hk.2) (.int .i64 t191)) (fun _ hk => hk.2) (.int .i64 t192)) (fun _ hk => hk.2) (.slice Ao39 t193.length co39)) (fun _ hk => hk.2) (.slice Ao41 t196.length co41)) (fun _ hk => hk.2) (.slice Ao43 t199.length co43)) (fun _ hk => ⟨hk.1.2.1, ⟨hk.1.2.2, hk.1.1⟩⟩)⟩
            have n5_ : Aside0 (Kd.R k34 34 (((((w36.setCell ⟨gb203, 0, none⟩ (.int .i64 t191)).setCell ⟨gb203, 1, none⟩ (.int .i64 t192)).setCell ⟨gb203, 2, none⟩ (.slice Ao39 t193.length co39)).setCell ⟨gb203, 3, none⟩ (.slice Ao41 t196.length co41)).setCell ⟨gb203, 4, none⟩ (.slice Ao43 t199.length co43)) w.heap.size (fun k_ => some k_ ≠ (.slice Ao32 x190004_2.length co32 : Value).ownBlock) (.slice Ao43 t199.length co43) t199) := ⟨by (with_reducible repeat (first | apply Kd.R_alloc | apply Kd.R_drewN | apply Kd.R_drew)); exact Kd.R_mono (Kd.R_far (p := ⟨gb203, 4, none⟩) (Kd.R_far (p := ⟨gb203, 3, none⟩) (Kd.R_far (p := ⟨gb203, 2, none⟩) (Kd.R_far (p := ⟨gb203, 1, none⟩) (Kd.R_far (p := ⟨gb203, 0, none⟩) (Kd.R_types HO201.out BK203.out (by decide)) (fun _ hk => hk.2) (.int .i64 t191)) (fun _ hk => hk.2) (.int .i64 t192)) (fun _ hk => hk.2) (.slice Ao39 t193.length co39)) (fun _ hk => hk.2) (.slice Ao41 t196.length co41)) (fun _ hk => hk.2) (.slice Ao43 t199.length co43)) (fun _ hk => hk.1)⟩
            have n6_ : Aside0 ((((((w36.setCell ⟨gb203, 0, none⟩ (.int .i64 t191)).setCell ⟨gb203, 1, none⟩ (.int .i64 t192)).setCell ⟨gb203, 2, none⟩ (.slice Ao39 t193.length co39)).setCell ⟨gb203, 3, none⟩ (.slice Ao41 t196.length co41)).setCell ⟨gb203, 4, none⟩ (.slice Ao43 t199.length co43)).heap[gb176]? = some (.cells #[.int .i64 x177000_2, .int .i64 x177001_2, .slice none 0 0, .slice none 0 0, .slice none 0 0] 25 (0, 0))) := ⟨by (with_reducible repeat (first | refine blk_drewN ?_ _ | refine blk_drew ?_ | refine blk_alloc ?_ _)); refine blk_far ?_ NB176_203.out _; (with_reducible repeat (first | refine blk_drewN ?_ _ | refine blk_drew ?_ | refine blk_alloc ?_ _)); refine blk_far ?_ NB176_203.out _; (with_reducible repeat (first | refine blk_drewN ?_ _ | refine blk_drew ?_ | refine blk_alloc ?_ _)); refine blk_far ?_ NB176_203.out _; (with_reducible repeat (first | refine blk_drewN ?_ _ | refine blk_drew ?_ | refine blk_alloc ?_ _)); refine blk_far ?_ NB176_203.out _; (with_reducible repeat (first | refine blk_drewN ?_ _ | refine blk_drew ?_ | refine blk_alloc ?_ _)); refine blk_far ?_ NB176_203.out _; (with_reducible repeat (first | refine blk_drewN ?_ _ | refine blk_drew ?_ | refine blk_alloc ?_ _)); exact BK176.out⟩
            have n7_ : Aside0 ((((((w36.setCell ⟨gb203, 0, none⟩ (.int .i64 t191)).setCell ⟨gb203, 1, none⟩ (.int .i64 t192)).setCell ⟨gb203, 2, none⟩ (.slice Ao39 t193.length co39)).setCell ⟨gb203, 3, none⟩ (.slice Ao41 t196.length co41)).setCell ⟨gb203, 4, none⟩ (.slice Ao43 t199.length co43)).heap[gb189]? = some (.cells #[.int .i64 x190000_2, .int .i64 x190001_2, .slice Ao30 x190002_2.length co30, .slice Ao31 x190003_2.length co31, .slice Ao32 x190004_2.length co32] 25 (0, 0))) := ⟨by (with_reducible repeat (first | refine blk_drewN ?_ _ | refine blk_drew ?_ | refine blk_alloc ?_ _)); refine blk_far ?_ NB189_203.out _; (with_reducible repeat (first | refine blk_drewN ?_ _ | refine blk_drew ?_ | refine blk_alloc ?_ _)); refine blk_far ?_ NB189_203.out _; (with_reducible repeat (first | refine blk_drewN ?_ _ | refine blk_drew ?_ | refine blk_alloc ?_ _)); refine blk_far ?_ NB189_203.out _; (with_reducible repeat (first | refine blk_drewN ?_ _ | refine blk_drew ?_ | refine blk_alloc ?_ _)); refine blk_far ?_ NB189_203.out _; (with_reducible repeat (first | refine blk_drewN ?_ _ | refine blk_drew ?_ | refine blk_alloc ?_ _)); refine blk_far ?_ NB189_203.out _; (with_reducible repeat (first | refine blk_drewN ?_ _ | refine blk_drew ?_ | refine blk_alloc ?_ _)); exact BK189.out⟩
            have n8_ : Aside0 ((((((w36.setCell ⟨gb203, 0, none⟩ (.int .i64 t191)).setCell ⟨gb203, 1, none⟩ (.int .i64 t192)).setCell ⟨gb203, 2, none⟩ (.slice Ao39 t193.length co39)).setCell ⟨gb203, 3, none⟩ (.slice Ao41 t196.length co41)).setCell ⟨gb203, 4, none⟩ (.slice Ao43 t199.length co43)).heap[gb203]? = some (.cells #[.int .i64 t191, .int .i64 t192, .slice Ao39 t193.length co39, .slice Ao41 t196.length co41, .slice Ao43 t199.length co43] 25 (0, 0))) := ⟨by (with_reducible repeat (first | refine blk_drewN ?_ _ | refine blk_drew ?_ | refine blk_alloc ?_ _)); refine blk_put (cs := #[.int .i64 t191, .int .i64 t192, .slice Ao39 t193.length co39, .slice Ao41 t196.length co41, .slice none 0 0]) ?_ 4 _ rfl; (with_reducible repeat (first | refine blk_drewN ?_ _ | refine blk_drew ?_ | refine blk_alloc ?_ _)); refine blk_put (cs := #[.int .i64 t191, .int .i64 t192, .slice Ao39 t193.length co39, .slice none 0 0, .slice none 0 0]) ?_ 3 _ rfl; (with_reducible repeat (first | refine blk_drewN ?_ _ | refine blk_drew ?_ | refine blk_alloc ?_ _)); refine blk_put (cs := #[.int .i64 t191, .int .i64 t192, .slice none 0 0, .slice none 0 0, .slice none 0 0]) ?_ 2 _ rfl; (with_reducible repeat (first | refine blk_drewN ?_ _ | refine blk_drew ?_ | refine blk_alloc ?_ _)); refine blk_put (cs := #[.int .i64 t191, .int .i64 0, .slice none 0 0, .slice none 0 0, .slice none 0 0]) ?_ 1 _ rfl; (with_reducible repeat (first | refine blk_drewN ?_ _ | refine blk_drew ?_ | refine blk_alloc ?_ _)); refine blk_put (cs := #[.int .i64 0, .int .i64 0, .slice none 0 0, .slice none 0 0, .slice none 0 0]) ?_ 0 _ rfl; (with_reducible repeat (first | refine blk_drewN ?_ _ | refine blk_drew ?_ | refine blk_alloc ?_ _)); exact BK203.out⟩
            have n9_ : Aside0 (Below w.heap.size w (((((w36.setCell ⟨gb203, 0, none⟩ (.int .i64 t191)).setCell ⟨gb203, 1, none⟩ (.int .i64 t192)).setCell ⟨gb203, 2, none⟩ (.slice Ao39 t193.length co39)).setCell ⟨gb203, 3, none⟩ (.slice Ao41 t196.length co41)).setCell ⟨gb203, 4, none⟩ (.slice Ao43 t199.length co43))) := ⟨by repeat (first | (with_reducible first | exact HB.out | apply below_alloc | apply pw_below_drewN | apply below_drew1 | refine below_set ?_ GE176.out | refine below_set ?_ GE189.out | refine below_set ?_ GE203.out) | exact HB.out)⟩
            (try clear HO_190002)
            (try clear HO_190003)
            (try clear HO_190004)
            (try clear HO195)
            (try clear HO198)
            (try clear HO201)
            (try clear BK176)
            (try clear BK189)
            (try clear BK203)
            (try clear HB)
            generalize (((((w36.setCell ⟨gb203, 0, none⟩ (.int .i64 t191)).setCell ⟨gb203, 1, none⟩ (.int .i64 t192)).setCell ⟨gb203, 2, none⟩ (.slice Ao39 t193.length co39)).setCell ⟨gb203, 3, none⟩ (.slice Ao41 t196.length co41)).setCell ⟨gb203, 4, none⟩ (.slice Ao43 t199.length co43)) = w46 at n0_ n1_ n2_ n3_ n4_ n5_ n6_ n7_ n8_ n9_ ⊢
            have HO_190002 := n0_
            have HO_190003 := n1_
            have HO_190004 := n2_
            have HO195 := n3_
            have HO198 := n4_
            have HO201 := n5_
            have BK176 := n6_
            have BK189 := n7_
            have BK203 := n8_
            have HB := n9_
            clear n0_ n1_ n2_ n3_ n4_ n5_ n6_ n7_ n8_ n9_
            have n0_ := Aside0.mk (Kd.R_drew HO_190002.out)
            have n1_ := Aside0.mk (Kd.R_drew HO_190003.out)
            have n2_ := Aside0.mk (Kd.R_drew HO_190004.out)
            have n3_ := Aside0.mk (Kd.R_drew HO195.out)
            have n4_ := Aside0.mk (Kd.R_drew HO198.out)
            have n5_ := Aside0.mk (Kd.R_drew HO201.out)
            have n6_ := Aside0.mk (blk_drew BK176.out)
            have n7_ := Aside0.mk (blk_drew BK189.out)
            have n8_ := Aside0.mk (blk_drew BK203.out)
            have n9_ := Aside0.mk (below_drew1 HB.out)
            clear HO_190002
            clear HO_190003
            clear HO_190004
            clear HO195
            clear HO198
            clear HO201
            clear BK176
            clear BK189
            clear BK203
            clear HB
            have HO_190002 := n0_
            have HO_190003 := n1_
            have HO_190004 := n2_
            have HO195 := n3_
            have HO198 := n4_
            have HO201 := n5_
            have BK176 := n6_
            have BK189 := n7_
            have BK203 := n8_
            have HB := n9_
            clear n0_ n1_ n2_ n3_ n4_ n5_ n6_ n7_ n8_ n9_
            have p204 : 0 ≤ (x8_2 : Int) := of_decide_eq_true (by first | (with_reducible assumption) | assumption)
            have q204 : x8_2 < (l1.length : Int) := of_decide_eq_true (by first | (with_reducible assumption) | assumption)
            obtain ⟨ad204, e204, hx204_0, hx204_1, hx204_2, hx204_3⟩ := at_T34 HR1.out x8_2 p204 q204
            have hw204_3 := hx204_3
            have hw204_2 := hx204_2
            have hw204_1 := hx204_1
            have hw204_0 := hx204_0
            obtain rfl : ad190 = ad204 := (by injection e204)
            replace hx204_0 := (HB.out.cell (World.block_lt_of_cell? w _ hx204_0)).trans hx204_0
            replace hx204_1 := (HB.out.cell (World.block_lt_of_cell? w _ hx204_1)).trans hx204_1
            replace hx204_2 := (HB.out.cell (World.block_lt_of_cell? w _ hx204_2)).trans hx204_2
            replace hx204_3 := (HB.out.cell (World.block_lt_of_cell? w _ hx204_3)).trans hx204_3
            replace p204 := eq_true p204
            replace q204 := eq_true q204
            refine start_ (n := 10) (S := fun w' => w'.cell? ⟨gb189, 0, none⟩ = some (.int .i64 x190000_2) ∧ w'.cell? ⟨gb189, 1, none⟩ = some (.int .i64 x190001_2) ∧ w'.cell? ⟨gb189, 2, none⟩ = some (.slice Ao30 x190002_2.length co30) ∧ w'.cell? ⟨gb189, 3, none⟩ = some (.slice Ao31 x190003_2.length co31) ∧ w'.cell? ⟨gb189, 4, none⟩ = some (.slice Ao32 x190004_2.length co32) ∧ w'.cell? (ad190.add ((x8_2).toNat * 4)) = some (.int .i64 ((rd_T34 l1 x8_2).f0)) ∧ w'.cell? ⟨(ad190.add ((x8_2).toNat * 4)).block, (ad190.add ((x8_2).toNat * 4)).off + 1, none⟩ = some (.int .i64 ((rd_T34 l1 x8_2).f1)) ∧ w'.cell? ⟨(ad190.add ((x8_2).toNat * 4)).block, (ad190.add ((x8_2).toNat * 4)).off + 2, none⟩ = some (.int .i64 ((rd_T34 l1 x8_2).f2)) ∧ w'.cell? ⟨(ad190.add ((x8_2).toNat * 4)).block, (ad190.add ((x8_2).toNat * 4)).off + 3, none⟩ = some (.int .i64 ((rd_T34 l1 x8_2).f3))) (ds := []) #[false, false, false, false, false, false, false, false, false, false] (by kernel_rfl) rfl rfl ⟨(blk_cell BK189.out 0).trans rfl, (blk_cell BK189.out 1).trans rfl, (blk_cell BK189.out 2).trans rfl, (blk_cell BK189.out 3).trans rfl, (blk_cell BK189.out 4).trans rfl, ((HB.out.cell (World.block_lt_of_cell? w _ hw204_0)).trans hw204_0), ((HB.out.cell (World.block_lt_of_cell? w _ hw204_1)).trans hw204_1), ((HB.out.cell (World.block_lt_of_cell? w _ hw204_2)).trans hw204_2), ((HB.out.cell (World.block_lt_of_cell? w _ hw204_3)).trans hw204_3)⟩ (fun hHeld => ?_); refine with_tabW examboardlaw15_perform.tab8 examboardlaw15_perform.bits8 (fun HT_ HW_ => ?_)
            generalize w46.drew = w47 at HO_190002 HO_190003 HO_190004 HO195 HO198 HO201 BK176 BK189 BK203 HB hx204_0 hx204_1 hx204_2 hx204_3 hHeld ⊢
            refine pure_ (i := 0) (N := some 49) (v := ?_) (a' := ?_) #[true, false, false, false, false, false, false, false, false, false] rfl rfl (any_of HT_.out (by kernel_rfl)) (fun _ _ _ h => h) (Or.inl ⟨by rfl, ?_⟩) ?_ ?_
            rotate_left
            ·
             intro w'
             go_simp
             with_reducible rfl
            rotate_left
            ·
             simp only [Act.put, List.setIfInBounds_toArray, List.set_cons_zero, List.set_cons_succ, i64_w, i32_w]
             rfl
            refine pure_ (i := 1) (N := some 50) (v := ?_) (a' := ?_) #[true, true, false, false, false, false, false, false, false, false] rfl rfl (any_of HT_.out (by kernel_rfl)) (fun _ _ _ h => h) (Or.inl ⟨by rfl, ?_⟩) ?_ ?_
            rotate_left
            ·
             intro w'
             go_simp
             with_reducible rfl
            rotate_left
            ·
             simp only [Act.put, List.setIfInBounds_toArray, List.set_cons_zero, List.set_cons_succ, i64_w, i32_w]
             rfl
            refine pure_ (i := 3) (N := some 52) (v := ?_) (a' := ?_) #[true, true, false, true, false, false, false, false, false, false] rfl rfl (any_of HT_.out (by kernel_rfl)) (fun _ _ _ h => h) (Or.inl ⟨by rfl, ?_⟩) ?_ ?_
            rotate_left
            ·
             intro w'
             go_simp
             with_reducible rfl
            rotate_left
            ·
             simp only [Act.put, List.setIfInBounds_toArray, List.set_cons_zero, List.set_cons_succ, i64_w, i32_w]
             rfl
            refine pure_ (i := 4) (N := some 53) (v := ?_) (a' := ?_) #[true, true, false, true, true, false, false, false, false, false] rfl rfl (any_of HT_.out (by kernel_rfl)) (fun _ _ _ h => h) (Or.inl ⟨by rfl, ?_⟩) ?_ ?_
            rotate_left
            ·
             intro w'
             go_simp
             with_reducible rfl
            rotate_left
            ·
             simp only [Act.put, List.setIfInBounds_toArray, List.set_cons_zero, List.set_cons_succ, i64_w, i32_w]
             rfl
            refine pure_ (i := 5) (N := some 54) (v := ?_) (a' := ?_) #[true, true, false, true, true, true, false, false, false, false] rfl rfl (any_of HT_.out (by kernel_rfl)) (fun _ _ _ h => h) (Or.inl ⟨by rfl, ?_⟩) ?_ ?_
            rotate_left
            ·
             intro w'
             go_simp
             with_reducible rfl
            rotate_left
            ·
             simp only [Act.put, List.setIfInBounds_toArray, List.set_cons_zero, List.set_cons_succ, i64_w, i32_w]
             rfl
            refine take_ (i := 2) (N := some 51) (v := ?_) (a' := ?_) #[true, true, true, true, true, true, false, false, false, false] rfl rfl (take_ofW HT_.out HW_.out (by kernel_rfl)) (fun _ _ _ h => h) (Or.inl ⟨by rfl, ?_⟩) hHeld ?_ ?_
            rotate_left
            ·
             rintro w' ⟨s0, s1, s2, s3, s4, s5, s6, s7, s8⟩
             go_simp
             with_reducible rfl
            rotate_left
            ·
             simp only [Act.put, List.setIfInBounds_toArray, List.set_cons_zero, List.set_cons_succ, i64_w, i32_w]
             rfl
            refine take_ (i := 6) (N := some 55) (v := ?_) (a' := ?_) #[true, true, true, true, true, true, true, false, false, false] rfl rfl (take_ofW HT_.out HW_.out (by kernel_rfl)) (fun _ _ _ h => h) (Or.inl ⟨by rfl, ?_⟩) hHeld ?_ ?_
            rotate_left
            ·
             rintro w' ⟨s0, s1, s2, s3, s4, s5, s6, s7, s8⟩
             go_simp
             with_reducible rfl
            rotate_left
            ·
             simp only [Act.put, List.setIfInBounds_toArray, List.set_cons_zero, List.set_cons_succ, i64_w, i32_w]
             rfl
            refine one_ (i := 7) (N := some 56) #[true, true, true, true, true, true, true, true, false, false] rfl rfl (one_of HT_.out (by kernel_rfl)) (by decide) (fun K hK => ?_)
            refine goes_ Try.func18 (by kernel_rfl) rfl #[.agg #[.int .i64 x190000_2, .int .i64 x190001_2, .slice Ao30 x190002_2.length co30, .slice Ao31 x190003_2.length co31, .slice Ao32 x190004_2.length co32], .agg #[.int .i64 ((rd_T34 l1 x8_2).f0), .int .i64 ((rd_T34 l1 x8_2).f1), .int .i64 ((rd_T34 l1 x8_2).f2), .int .i64 ((rd_T34 l1 x8_2).f3)]] (by rfl) rfl rfl (by (try simp only [List.map_toArray, List.map_cons, List.map_nil]); first | done | rfl | (simp only [List.length_drop, List.length_take]; rfl)) ?_
            with_reducible refine (review_Allowed.calls kj22 x190000_2 x190001_2 _ _ x190002_2 _ _ x190003_2 _ _ x190004_2 ((rd_T34 l1 x8_2).f0) ((rd_T34 l1 x8_2).f1) ((rd_T34 l1 x8_2).f2) ((rd_T34 l1 x8_2).f3) t205 _ ?side1 ?side2 ?side3 ?side4 ?side5 ?side6 A45.out).mono ?_
            (case side1 => repeat (first | exact (Kd.R_reads' HO_190002.out).2.2 | (with_reducible refine Kd.C_alloc ?_ _) | (with_reducible refine Kd.C_drewN ?_ _) | (with_reducible refine Kd.C_drew ?_)))
            (case side2 => exact (Kd.R_reads' HO_190002.out).2.1)
            (case side3 => repeat (first | exact (Kd.R_reads' HO_190003.out).2.2 | (with_reducible refine Kd.C_alloc ?_ _) | (with_reducible refine Kd.C_drewN ?_ _) | (with_reducible refine Kd.C_drew ?_)))
            (case side4 => exact (Kd.R_reads' HO_190003.out).2.1)
            (case side5 => repeat (first | exact (Kd.R_reads' HO_190004.out).2.2 | (with_reducible refine Kd.C_alloc ?_ _) | (with_reducible refine Kd.C_drewN ?_ _) | (with_reducible refine Kd.C_drew ?_)))
            (case side6 => exact (Kd.R_reads' HO_190004.out).2.1)
            rintro e w48 ⟨rfl, hb⟩
            refine ⟨_, rfl, ?_⟩
            have n0_ := Aside0.mk (Kd.R_below (by (with_reducible repeat (first | apply Kd.R_alloc | apply Kd.R_drewN | apply Kd.R_drew)); exact HO_190002.out) hb)
            have n1_ := Aside0.mk (Kd.R_below (by (with_reducible repeat (first | apply Kd.R_alloc | apply Kd.R_drewN | apply Kd.R_drew)); exact HO_190003.out) hb)
            have n2_ := Aside0.mk (Kd.R_below (by (with_reducible repeat (first | apply Kd.R_alloc | apply Kd.R_drewN | apply Kd.R_drew)); exact HO_190004.out) hb)
            have n3_ := Aside0.mk (Kd.R_below (by (with_reducible repeat (first | apply Kd.R_alloc | apply Kd.R_drewN | apply Kd.R_drew)); exact HO195.out) hb)
            have n4_ := Aside0.mk (Kd.R_below (by (with_reducible repeat (first | apply Kd.R_alloc | apply Kd.R_drewN | apply Kd.R_drew)); exact HO198.out) hb)
            have n5_ := Aside0.mk (Kd.R_below (by (with_reducible repeat (first | apply Kd.R_alloc | apply Kd.R_drewN | apply Kd.R_drew)); exact HO201.out) hb)
            have n6_ := Aside0.mk (blk_below (g := gb176) (o := .cells #[.int .i64 x177000_2, .int .i64 x177001_2, .slice none 0 0, .slice none 0 0, .slice none 0 0] 25 (0, 0)) (by (with_reducible repeat (first | refine blk_drewN ?_ _ | refine blk_drew ?_ | refine blk_alloc ?_ _)); exact BK176.out) hb)
            have n7_ := Aside0.mk (blk_below (g := gb189) (o := .cells #[.int .i64 x190000_2, .int .i64 x190001_2, .slice Ao30 x190002_2.length co30, .slice Ao31 x190003_2.length co31, .slice Ao32 x190004_2.length co32] 25 (0, 0)) (by (with_reducible repeat (first | refine blk_drewN ?_ _ | refine blk_drew ?_ | refine blk_alloc ?_ _)); exact BK189.out) hb)
            have n8_ := Aside0.mk (blk_below (g := gb203) (o := .cells #[.int .i64 t191, .int .i64 t192, .slice Ao39 t193.length co39, .slice Ao41 t196.length co41, .slice Ao43 t199.length co43] 25 (0, 0)) (by (with_reducible repeat (first | refine blk_drewN ?_ _ | refine blk_drew ?_ | refine blk_alloc ?_ _)); exact BK203.out) hb)
            have n9_ := Aside0.mk (below_step (by repeat (first | (with_reducible first | exact HB.out | apply below_alloc | apply pw_below_drewN | apply below_drew1 | refine below_set ?_ GE176.out | refine below_set ?_ GE189.out | refine below_set ?_ GE203.out) | exact HB.out)) hb)
            clear HO_190002
            clear HO_190003
            clear HO_190004
            clear HO195
            clear HO198
            clear HO201
            clear BK176
            clear BK189
            clear BK203
            clear HB
            have HO_190002 := n0_
            have HO_190003 := n1_
            have HO_190004 := n2_
            have HO195 := n3_
            have HO198 := n4_
            have HO201 := n5_
            have BK176 := n6_
            have BK189 := n7_
            have BK203 := n8_
            have HB := n9_
            clear n0_ n1_ n2_ n3_ n4_ n5_ n6_ n7_ n8_ n9_
            (try clear hb)
            (try clear hb2)
            (try clear hk)
            (try clear hi)
            refine hK.out _ _ ⟨(blk_cell BK189.out 0).trans rfl, (blk_cell BK189.out 1).trans rfl, (blk_cell BK189.out 2).trans rfl, (blk_cell BK189.out 3).trans rfl, (blk_cell BK189.out 4).trans rfl, ((HB.out.cell (World.block_lt_of_cell? w _ hw204_0)).trans hw204_0), ((HB.out.cell (World.block_lt_of_cell? w _ hw204_1)).trans hw204_1), ((HB.out.cell (World.block_lt_of_cell? w _ hw204_2)).trans hw204_2), ((HB.out.cell (World.block_lt_of_cell? w _ hw204_3)).trans hw204_3)⟩ (fun hHeld => ?_)
            clear hK K
            refine norm_ (a' := ?_) ?_ ?_
            rotate_left
            ·
             show Act.put _ (some 56) _ = _
             simp only [Act.put, List.setIfInBounds_toArray, List.set_cons_zero, List.set_cons_succ, i64_w, i32_w]
             rfl
            refine pure_ (i := 8) (N := some 57) (v := ?_) (a' := ?_) #[true, true, true, true, true, true, true, true, true, false] rfl rfl (any_of HT_.out (by kernel_rfl)) (fun _ _ _ h => h) (Or.inl ⟨by rfl, ?_⟩) ?_ ?_
            rotate_left
            ·
             intro w'
             go_simp
             with_reducible rfl
            rotate_left
            ·
             simp only [Act.put, List.setIfInBounds_toArray, List.set_cons_zero, List.set_cons_succ, i64_w, i32_w]
             rfl
            refine pure_ (i := 9) (N := some 58) (v := ?_) (a' := ?_) #[true, true, true, true, true, true, true, true, true, true] rfl rfl (any_of HT_.out (by kernel_rfl)) (fun _ _ _ h => h) (Or.inl ⟨by rfl, ?_⟩) ?_ ?_
            rotate_left
            ·
             intro w'
             go_simp
             with_reducible rfl
            rotate_left
            ·
             simp only [Act.put, List.setIfInBounds_toArray, List.set_cons_zero, List.set_cons_succ, i64_w, i32_w]
             rfl
            refine done_ (done_of HT_.out (by kernel_rfl)) ?_
            try go_wp2
            go_meet
            case rel => exact ⟨_, (((t202 == 0) != (t205 == 0))), (by first | rfl | (simp; done) | (simp [*]; done)), H', ⟨by have := HJ3.out; have := HK2.out; have := HJ22.out; first | omega | exact Nat.le_refl _⟩, ⟨by (with_reducible repeat (first | apply Kd.R_alloc | apply Kd.R_drewN | apply Kd.R_drew)); exact HO_190002.out⟩, ⟨by (with_reducible repeat (first | apply Kd.R_alloc | apply Kd.R_drewN | apply Kd.R_drew)); exact HO_190003.out⟩, ⟨by (with_reducible repeat (first | apply Kd.R_alloc | apply Kd.R_drewN | apply Kd.R_drew)); exact HO_190004.out⟩, ⟨by (with_reducible repeat (first | apply Kd.R_alloc | apply Kd.R_drewN | apply Kd.R_drew)); exact HO195.out⟩, ⟨by (with_reducible repeat (first | apply Kd.R_alloc | apply Kd.R_drewN | apply Kd.R_drew)); exact HO198.out⟩, ⟨by (with_reducible repeat (first | apply Kd.R_alloc | apply Kd.R_drewN | apply Kd.R_drew)); exact HO201.out⟩, ⟨by (with_reducible repeat (first | refine blk_drewN ?_ _ | refine blk_drew ?_ | refine blk_alloc ?_ _)); exact BK176.out⟩, ⟨by (with_reducible repeat (first | refine blk_drewN ?_ _ | refine blk_drew ?_ | refine blk_alloc ?_ _)); exact BK189.out⟩, ⟨by (with_reducible repeat (first | refine blk_drewN ?_ _ | refine blk_drew ?_ | refine blk_alloc ?_ _)); exact BK203.out⟩, ⟨by repeat (first | (with_reducible first | exact HB.out | apply below_alloc | apply pw_below_drewN | apply below_drew1 | refine below_set ?_ GE176.out | refine below_set ?_ GE189.out | refine below_set ?_ GE203.out) | exact HB.out)⟩⟩
           case rest =>
            clear HC29
            (try clear c1); (try clear p2); (try clear q2); (try clear hx2); (try clear c13); (try clear c18); (try clear p20); (try clear q20); (try clear hx20); (try clear hx204_0); (try clear hx204_1); (try clear hx204_2); (try clear hx204_3); (try clear p204); (try clear q204)
            obtain ⟨kq, x58_28, rfl, HA, HJ28, HO_190002, HO_190003, HO_190004, HO_204002, HO_204003, HO_204004, BK176, BK189, BK203, HB⟩ := hcut
            cases kq with
            | zero => exact absurd HA.out (by simp [examboardlaw15_perform.j3])
            | succ kj28 =>
             have H := HA.out
             clear HA
             simp only [examboardlaw15_perform.j3] at H
             by_cases c49 : x58_28 = true
             ·
              subst c49
              have H1 : (some (x190000_2, x190001_2, x190002_2, x190003_2, x190004_2, false)) = some (r1, r2, r3, r4, r5, r6) := by rw [if_pos rfl] at H; exact H
              clear H
              have H := H1
              clear H1
              simp only [Option.some.injEq, Prod.mk.injEq] at H
              obtain ⟨rfl, rfl, rfl, rfl, rfl, rfl⟩ := H
              have hnb50 := NB189_176.out
              have hnc50 := NB176_189.out
              have hnb51 := NB189_203.out
              have hnc51 := NB203_189.out
              have hcz52_0 : wc.cell? ⟨gb189, 0, none⟩ = some (.int .i64 x190000_2) := (blk_cell BK189.out 0).trans rfl
              have hcz52_1 : wc.cell? ⟨gb189, 1, none⟩ = some (.int .i64 x190001_2) := (blk_cell BK189.out 1).trans rfl
              have hcz52_2 : wc.cell? ⟨gb189, 2, none⟩ = some (.slice Ao30 x190002_2.length co30) := (blk_cell BK189.out 2).trans rfl
              have hcz52_3 : wc.cell? ⟨gb189, 3, none⟩ = some (.slice Ao31 x190003_2.length co31) := (blk_cell BK189.out 3).trans rfl
              have hcz52_4 : wc.cell? ⟨gb189, 4, none⟩ = some (.slice Ao32 x190004_2.length co32) := (blk_cell BK189.out 4).trans rfl
              have hfz52_0 := blk_frozen BK189.out 0
              have hfz52_1 := blk_frozen BK189.out 1
              have hfz52_2 := blk_frozen BK189.out 2
              have hfz52_3 := blk_frozen BK189.out 3
              have hfz52_4 := blk_frozen BK189.out 4
              have hnb53 := NB176_203.out
              have hnc53 := NB203_176.out
              have hcz54_0 : wc.cell? ⟨gb176, 0, none⟩ = some (.int .i64 x177000_2) := (blk_cell BK176.out 0).trans rfl
              have hcz54_1 : wc.cell? ⟨gb176, 1, none⟩ = some (.int .i64 x177001_2) := (blk_cell BK176.out 1).trans rfl
              have hcz54_2 : wc.cell? ⟨gb176, 2, none⟩ = some (.slice none 0 0) := (blk_cell BK176.out 2).trans rfl
              have hcz54_3 : wc.cell? ⟨gb176, 3, none⟩ = some (.slice none 0 0) := (blk_cell BK176.out 3).trans rfl
              have hcz54_4 : wc.cell? ⟨gb176, 4, none⟩ = some (.slice none 0 0) := (blk_cell BK176.out 4).trans rfl
              have hfz54_0 := blk_frozen BK176.out 0
              have hfz54_1 := blk_frozen BK176.out 1
              have hfz54_2 := blk_frozen BK176.out 2
              have hfz54_3 := blk_frozen BK176.out 3
              have hfz54_4 := blk_frozen BK176.out 4
              go_wp2
              refine bodyPost_ret (results_ct rfl _ _ gb176 25 #[.int .i64 x190000_2, .int .i64 x190001_2, .slice Ao30 x190002_2.length co30, .slice Ao31 x190003_2.length co31, .slice Ao32 x190004_2.length co32] (0, 0) _ rfl (by (with_reducible repeat (first | refine blk_drewN ?_ _ | refine blk_drew ?_ | refine blk_alloc ?_ _)); refine blk_put (cs := #[.int .i64 x190000_2, .int .i64 x190001_2, .slice Ao30 x190002_2.length co30, .slice Ao31 x190003_2.length co31, .slice none 0 0]) ?_ 4 _ rfl; (with_reducible repeat (first | refine blk_drewN ?_ _ | refine blk_drew ?_ | refine blk_alloc ?_ _)); refine blk_put (cs := #[.int .i64 x190000_2, .int .i64 x190001_2, .slice Ao30 x190002_2.length co30, .slice none 0 0, .slice none 0 0]) ?_ 3 _ rfl; (with_reducible repeat (first | refine blk_drewN ?_ _ | refine blk_drew ?_ | refine blk_alloc ?_ _)); refine blk_put (cs := #[.int .i64 x190000_2, .int .i64 x190001_2, .slice none 0 0, .slice none 0 0, .slice none 0 0]) ?_ 2 _ rfl; (with_reducible repeat (first | refine blk_drewN ?_ _ | refine blk_drew ?_ | refine blk_alloc ?_ _)); refine blk_put (cs := #[.int .i64 x190000_2, .int .i64 x177001_2, .slice none 0 0, .slice none 0 0, .slice none 0 0]) ?_ 1 _ rfl; (with_reducible repeat (first | refine blk_drewN ?_ _ | refine blk_drew ?_ | refine blk_alloc ?_ _)); refine blk_put (cs := #[.int .i64 x177000_2, .int .i64 x177001_2, .slice none 0 0, .slice none 0 0, .slice none 0 0]) ?_ 0 _ rfl; (with_reducible repeat (first | refine blk_drewN ?_ _ | refine blk_drew ?_ | refine blk_alloc ?_ _)); exact BK176.out) Try.underlying25 rfl (by kernel_rfl)) rfl ?_
              exact ⟨_, _, _, by first | rfl | (simp [errW_none, errW_some] <;> rfl) | (simp [*, errW_none, errW_some] <;> rfl), by (with_reducible repeat (first | apply Kd.R_alloc | apply Kd.R_drewN | apply Kd.R_drew)); exact Kd.R_mono (Kd.R_far (p := ⟨gb176, 4, none⟩) (Kd.R_far (p := ⟨gb176, 3, none⟩) (Kd.R_far (p := ⟨gb176, 2, none⟩) (Kd.R_far (p := ⟨gb176, 1, none⟩) (Kd.R_far (p := ⟨gb176, 0, none⟩) (Kd.R_types HO_190002.out BK176.out (by decide)) (fun _ hk => hk.2) (.int .i64 x190000_2)) (fun _ hk => hk.2) (.int .i64 x190001_2)) (fun _ hk => hk.2) (.slice Ao30 x190002_2.length co30)) (fun _ hk => hk.2) (.slice Ao31 x190003_2.length co31)) (fun _ hk => hk.2) (.slice Ao32 x190004_2.length co32)) (fun _ hk => hk.1.1), by (with_reducible repeat (first | apply Kd.R_alloc | apply Kd.R_drewN | apply Kd.R_drew)); exact Kd.R_mono (Kd.R_far (p := ⟨gb176, 4, none⟩) (Kd.R_far (p := ⟨gb176, 3, none⟩) (Kd.R_far (p := ⟨gb176, 2, none⟩) (Kd.R_far (p := ⟨gb176, 1, none⟩) (Kd.R_far (p := ⟨gb176, 0, none⟩) (Kd.R_types HO_190003.out BK176.out (by decide)) (fun _ hk => hk.2) (.int .i64 x190000_2)) (fun _ hk => hk.2) (.int .i64 x190001_2)) (fun _ hk => hk.2) (.slice Ao30 x190002_2.length co30)) (fun _ hk => hk.2) (.slice Ao31 x190003_2.length co31)) (fun _ hk => hk.2) (.slice Ao32 x190004_2.length co32)) (fun _ hk => hk.1.1), by (with_reducible repeat (first | apply Kd.R_alloc | apply Kd.R_drewN | apply Kd.R_drew)); exact Kd.R_mono (Kd.R_far (p := ⟨gb176, 4, none⟩) (Kd.R_far (p := ⟨gb176, 3, none⟩) (Kd.R_far (p := ⟨gb176, 2, none⟩) (Kd.R_far (p := ⟨gb176, 1, none⟩) (Kd.R_far (p := ⟨gb176, 0, none⟩) (Kd.R_types HO_190004.out BK176.out (by decide)) (fun _ hk => hk.2) (.int .i64 x190000_2)) (fun _ hk => hk.2) (.int .i64 x190001_2)) (fun _ hk => hk.2) (.slice Ao30 x190002_2.length co30)) (fun _ hk => hk.2) (.slice Ao31 x190003_2.length co31)) (fun _ hk => hk.2) (.slice Ao32 x190004_2.length co32)) (fun _ hk => trivial), by repeat (first | (with_reducible first | exact HB.out | apply below_alloc | apply pw_below_drewN | apply below_drew1 | refine below_set ?_ GE176.out | refine below_set ?_ GE189.out | refine below_set ?_ GE203.out) | exact HB.out)⟩
             ·
              replace c49 := Bool.eq_false_iff.mpr c49
              subst c49
              have H1 : (if t202 = 0 then (if (t199.length : Int) = (wrap64 ((x190004_2.length : Int) + 1)) then (examboardlaw15_perform.l0 kj28 l1 (wrap64 (x8_2 + 1)) t191 t192 t193 t196 t199) else (some (x190000_2, x190001_2, x190002_2, x190003_2, x190004_2, false))) else (examboardlaw15_perform.l0 kj28 l1 (wrap64 (x8_2 + 1)) x190000_2 x190001_2 x190002_2 x190003_2 x190004_2)) = some (r1, r2, r3, r4, r5, r6) := by rw [if_neg (show ¬ (false = true) by decide)] at H; exact H
              clear H
              have H := H1
              clear H1
              by_cases c55 : t202 = 0
              ·
               rw [if_pos c55] at H
               have c55b0 : (t202 == 0) = true := beq_iff_eq.mpr c55
               have c55b1 : (t202 != 0) = false := bne_eq_false_iff_eq.mpr c55
               clear c55
               by_cases c56 : (t199.length : Int) = (wrap64 ((x190004_2.length : Int) + 1))
               ·
                rw [if_pos c56] at H
                have c56b0 : ((t199.length : Int) == (wrap64 ((x190004_2.length : Int) + 1))) = true := beq_iff_eq.mpr c56
                have c56b1 : ((t199.length : Int) != (wrap64 ((x190004_2.length : Int) + 1))) = false := bne_eq_false_iff_eq.mpr c56
                clear c56
                have H' := Aside0.mk H
                clear H
                have hnb57 := NB203_176.out
                have hnc57 := NB176_203.out
                have hnb58 := NB203_189.out
                have hnc58 := NB189_203.out
                have hcz59_0 : wc.cell? ⟨gb203, 0, none⟩ = some (.int .i64 t191) := (blk_cell BK203.out 0).trans rfl
                have hcz59_1 : wc.cell? ⟨gb203, 1, none⟩ = some (.int .i64 t192) := (blk_cell BK203.out 1).trans rfl
                have hcz59_2 : wc.cell? ⟨gb203, 2, none⟩ = some (.slice Ao39 t193.length co39) := (blk_cell BK203.out 2).trans rfl
                have hcz59_3 : wc.cell? ⟨gb203, 3, none⟩ = some (.slice Ao41 t196.length co41) := (blk_cell BK203.out 3).trans rfl
                have hcz59_4 : wc.cell? ⟨gb203, 4, none⟩ = some (.slice Ao43 t199.length co43) := (blk_cell BK203.out 4).trans rfl
                have hfz59_0 := blk_frozen BK203.out 0
                have hfz59_1 := blk_frozen BK203.out 1
                have hfz59_2 := blk_frozen BK203.out 2
                have hfz59_3 := blk_frozen BK203.out 3
                have hfz59_4 := blk_frozen BK203.out 4
                have hnb60 := NB189_176.out
                have hnc60 := NB176_189.out
                have hcz61_0 : wc.cell? ⟨gb189, 0, none⟩ = some (.int .i64 x190000_2) := (blk_cell BK189.out 0).trans rfl
                have hcz61_1 : wc.cell? ⟨gb189, 1, none⟩ = some (.int .i64 x190001_2) := (blk_cell BK189.out 1).trans rfl
                have hcz61_2 : wc.cell? ⟨gb189, 2, none⟩ = some (.slice Ao30 x190002_2.length co30) := (blk_cell BK189.out 2).trans rfl
                have hcz61_3 : wc.cell? ⟨gb189, 3, none⟩ = some (.slice Ao31 x190003_2.length co31) := (blk_cell BK189.out 3).trans rfl
                have hcz61_4 : wc.cell? ⟨gb189, 4, none⟩ = some (.slice Ao32 x190004_2.length co32) := (blk_cell BK189.out 4).trans rfl
                have hfz61_0 := blk_frozen BK189.out 0
                have hfz61_1 := blk_frozen BK189.out 1
                have hfz61_2 := blk_frozen BK189.out 2
                have hfz61_3 := blk_frozen BK189.out 3
                have hfz61_4 := blk_frozen BK189.out 4
                go_wp2
                go_roundg kj28
                case measure => have := HJ3.out; have := HK2.out; have := HJ22.out; have := HJ28.out; omega
                case rel => exact ⟨(wrap64 (x8_2 + 1)), (x177000_2), (x177001_2), (t191), (t192), (t193), (t196), (t199), (.slice Ao39 t193.length co39), (.slice Ao41 t196.length co41), (.slice Ao43 t199.length co43), (by first | rfl | (simp; done) | (simp [*]; done)), H', ⟨by have := HJ3.out; have := HK2.out; have := HJ22.out; have := HJ28.out; omega⟩, ⟨by (with_reducible repeat (first | apply Kd.R_alloc | apply Kd.R_drewN | apply Kd.R_drew)); exact Kd.R_mono (Kd.R_far (p := ⟨gb189, 4, none⟩) (Kd.R_far (p := ⟨gb189, 3, none⟩) (Kd.R_far (p := ⟨gb189, 2, none⟩) (Kd.R_far (p := ⟨gb189, 1, none⟩) (Kd.R_far (p := ⟨gb189, 0, none⟩) (Kd.R_types HO_204002.out BK189.out (by decide)) (fun _ hk => hk.2) (.int .i64 t191)) (fun _ hk => hk.2) (.int .i64 t192)) (fun _ hk => hk.2) (.slice Ao39 t193.length co39)) (fun _ hk => hk.2) (.slice Ao41 t196.length co41)) (fun _ hk => hk.2) (.slice Ao43 t199.length co43)) (fun _ hk => hk.1.2.2)⟩, ⟨by (with_reducible repeat (first | apply Kd.R_alloc | apply Kd.R_drewN | apply Kd.R_drew)); exact Kd.R_mono (Kd.R_far (p := ⟨gb189, 4, none⟩) (Kd.R_far (p := ⟨gb189, 3, none⟩) (Kd.R_far (p := ⟨gb189, 2, none⟩) (Kd.R_far (p := ⟨gb189, 1, none⟩) (Kd.R_far (p := ⟨gb189, 0, none⟩) (Kd.R_types HO_204003.out BK189.out (by decide)) (fun _ hk => hk.2) (.int .i64 t191)) (fun _ hk => hk.2) (.int .i64 t192)) (fun _ hk => hk.2) (.slice Ao39 t193.length co39)) (fun _ hk => hk.2) (.slice Ao41 t196.length co41)) (fun _ hk => hk.2) (.slice Ao43 t199.length co43)) (fun _ hk => hk.1.2.2)⟩, ⟨by (with_reducible repeat (first | apply Kd.R_alloc | apply Kd.R_drewN | apply Kd.R_drew)); exact Kd.R_mono (Kd.R_far (p := ⟨gb189, 4, none⟩) (Kd.R_far (p := ⟨gb189, 3, none⟩) (Kd.R_far (p := ⟨gb189, 2, none⟩) (Kd.R_far (p := ⟨gb189, 1, none⟩) (Kd.R_far (p := ⟨gb189, 0, none⟩) (Kd.R_types HO_204004.out BK189.out (by decide)) (fun _ hk => hk.2) (.int .i64 t191)) (fun _ hk => hk.2) (.int .i64 t192)) (fun _ hk => hk.2) (.slice Ao39 t193.length co39)) (fun _ hk => hk.2) (.slice Ao41 t196.length co41)) (fun _ hk => hk.2) (.slice Ao43 t199.length co43)) (fun _ hk => trivial)⟩, ⟨by (with_reducible repeat (first | refine blk_drewN ?_ _ | refine blk_drew ?_ | refine blk_alloc ?_ _)); refine blk_far ?_ NB176_189.out _; (with_reducible repeat (first | refine blk_drewN ?_ _ | refine blk_drew ?_ | refine blk_alloc ?_ _)); refine blk_far ?_ NB176_189.out _; (with_reducible repeat (first | refine blk_drewN ?_ _ | refine blk_drew ?_ | refine blk_alloc ?_ _)); refine blk_far ?_ NB176_189.out _; (with_reducible repeat (first | refine blk_drewN ?_ _ | refine blk_drew ?_ | refine blk_alloc ?_ _)); refine blk_far ?_ NB176_189.out _; (with_reducible repeat (first | refine blk_drewN ?_ _ | refine blk_drew ?_ | refine blk_alloc ?_ _)); refine blk_far ?_ NB176_189.out _; (with_reducible repeat (first | refine blk_drewN ?_ _ | refine blk_drew ?_ | refine blk_alloc ?_ _)); exact BK176.out⟩, ⟨by (with_reducible repeat (first | refine blk_drewN ?_ _ | refine blk_drew ?_ | refine blk_alloc ?_ _)); refine blk_put (cs := #[.int .i64 t191, .int .i64 t192, .slice Ao39 t193.length co39, .slice Ao41 t196.length co41, .slice Ao32 x190004_2.length co32]) ?_ 4 _ rfl; (with_reducible repeat (first | refine blk_drewN ?_ _ | refine blk_drew ?_ | refine blk_alloc ?_ _)); refine blk_put (cs := #[.int .i64 t191, .int .i64 t192, .slice Ao39 t193.length co39, .slice Ao31 x190003_2.length co31, .slice Ao32 x190004_2.length co32]) ?_ 3 _ rfl; (with_reducible repeat (first | refine blk_drewN ?_ _ | refine blk_drew ?_ | refine blk_alloc ?_ _)); refine blk_put (cs := #[.int .i64 t191, .int .i64 t192, .slice Ao30 x190002_2.length co30, .slice Ao31 x190003_2.length co31, .slice Ao32 x190004_2.length co32]) ?_ 2 _ rfl; (with_reducible repeat (first | refine blk_drewN ?_ _ | refine blk_drew ?_ | refine blk_alloc ?_ _)); refine blk_put (cs := #[.int .i64 t191, .int .i64 x190001_2, .slice Ao30 x190002_2.length co30, .slice Ao31 x190003_2.length co31, .slice Ao32 x190004_2.length co32]) ?_ 1 _ rfl; (with_reducible repeat (first | refine blk_drewN ?_ _ | refine blk_drew ?_ | refine blk_alloc ?_ _)); refine blk_put (cs := #[.int .i64 x190000_2, .int .i64 x190001_2, .slice Ao30 x190002_2.length co30, .slice Ao31 x190003_2.length co31, .slice Ao32 x190004_2.length co32]) ?_ 0 _ rfl; (with_reducible repeat (first | refine blk_drewN ?_ _ | refine blk_drew ?_ | refine blk_alloc ?_ _)); exact BK189.out⟩, ⟨by repeat (first | (with_reducible first | exact HB.out | apply below_alloc | apply pw_below_drewN | apply below_drew1 | refine below_set ?_ GE176.out | refine below_set ?_ GE189.out | refine below_set ?_ GE203.out) | exact HB.out)⟩⟩
               ·
                rw [if_neg c56] at H
                have c56b0 : ((t199.length : Int) == (wrap64 ((x190004_2.length : Int) + 1))) = false := beq_eq_false_iff_ne.mpr c56
                have c56b1 : ((t199.length : Int) != (wrap64 ((x190004_2.length : Int) + 1))) = true := bne_iff_ne.mpr c56
                simp only [Option.some.injEq, Prod.mk.injEq] at H
                obtain ⟨rfl, rfl, rfl, rfl, rfl, rfl⟩ := H
                have hnb62 := NB203_176.out
                have hnc62 := NB176_203.out
                have hnb63 := NB203_189.out
                have hnc63 := NB189_203.out
                have hcz64_0 : wc.cell? ⟨gb203, 0, none⟩ = some (.int .i64 t191) := (blk_cell BK203.out 0).trans rfl
                have hcz64_1 : wc.cell? ⟨gb203, 1, none⟩ = some (.int .i64 t192) := (blk_cell BK203.out 1).trans rfl
                have hcz64_2 : wc.cell? ⟨gb203, 2, none⟩ = some (.slice Ao39 t193.length co39) := (blk_cell BK203.out 2).trans rfl
                have hcz64_3 : wc.cell? ⟨gb203, 3, none⟩ = some (.slice Ao41 t196.length co41) := (blk_cell BK203.out 3).trans rfl
                have hcz64_4 : wc.cell? ⟨gb203, 4, none⟩ = some (.slice Ao43 t199.length co43) := (blk_cell BK203.out 4).trans rfl
                have hfz64_0 := blk_frozen BK203.out 0
                have hfz64_1 := blk_frozen BK203.out 1
                have hfz64_2 := blk_frozen BK203.out 2
                have hfz64_3 := blk_frozen BK203.out 3
                have hfz64_4 := blk_frozen BK203.out 4
                have hnb65 := NB189_176.out
                have hnc65 := NB176_189.out
                have hcz66_0 : wc.cell? ⟨gb189, 0, none⟩ = some (.int .i64 x190000_2) := (blk_cell BK189.out 0).trans rfl
                have hcz66_1 : wc.cell? ⟨gb189, 1, none⟩ = some (.int .i64 x190001_2) := (blk_cell BK189.out 1).trans rfl
                have hcz66_2 : wc.cell? ⟨gb189, 2, none⟩ = some (.slice Ao30 x190002_2.length co30) := (blk_cell BK189.out 2).trans rfl
                have hcz66_3 : wc.cell? ⟨gb189, 3, none⟩ = some (.slice Ao31 x190003_2.length co31) := (blk_cell BK189.out 3).trans rfl
                have hcz66_4 : wc.cell? ⟨gb189, 4, none⟩ = some (.slice Ao32 x190004_2.length co32) := (blk_cell BK189.out 4).trans rfl
                have hfz66_0 := blk_frozen BK189.out 0
                have hfz66_1 := blk_frozen BK189.out 1
                have hfz66_2 := blk_frozen BK189.out 2
                have hfz66_3 := blk_frozen BK189.out 3
                have hfz66_4 := blk_frozen BK189.out 4
                have hcz67_0 : wc.cell? ⟨gb176, 0, none⟩ = some (.int .i64 x177000_2) := (blk_cell BK176.out 0).trans rfl
                have hcz67_1 : wc.cell? ⟨gb176, 1, none⟩ = some (.int .i64 x177001_2) := (blk_cell BK176.out 1).trans rfl
                have hcz67_2 : wc.cell? ⟨gb176, 2, none⟩ = some (.slice none 0 0) := (blk_cell BK176.out 2).trans rfl
                have hcz67_3 : wc.cell? ⟨gb176, 3, none⟩ = some (.slice none 0 0) := (blk_cell BK176.out 3).trans rfl
                have hcz67_4 : wc.cell? ⟨gb176, 4, none⟩ = some (.slice none 0 0) := (blk_cell BK176.out 4).trans rfl
                have hfz67_0 := blk_frozen BK176.out 0
                have hfz67_1 := blk_frozen BK176.out 1
                have hfz67_2 := blk_frozen BK176.out 2
                have hfz67_3 := blk_frozen BK176.out 3
                have hfz67_4 := blk_frozen BK176.out 4
                go_wp2
                refine bodyPost_ret (results_ct rfl _ _ gb176 25 #[.int .i64 x190000_2, .int .i64 x190001_2, .slice Ao30 x190002_2.length co30, .slice Ao31 x190003_2.length co31, .slice Ao32 x190004_2.length co32] (0, 0) _ rfl (by (with_reducible repeat (first | refine blk_drewN ?_ _ | refine blk_drew ?_ | refine blk_alloc ?_ _)); refine blk_put (cs := #[.int .i64 x190000_2, .int .i64 x190001_2, .slice Ao30 x190002_2.length co30, .slice Ao31 x190003_2.length co31, .slice none 0 0]) ?_ 4 _ rfl; (with_reducible repeat (first | refine blk_drewN ?_ _ | refine blk_drew ?_ | refine blk_alloc ?_ _)); refine blk_put (cs := #[.int .i64 x190000_2, .int .i64 x190001_2, .slice Ao30 x190002_2.length co30, .slice none 0 0, .slice none 0 0]) ?_ 3 _ rfl; (with_reducible repeat (first | refine blk_drewN ?_ _ | refine blk_drew ?_ | refine blk_alloc ?_ _)); refine blk_put (cs := #[.int .i64 x190000_2, .int .i64 x190001_2, .slice none 0 0, .slice none 0 0, .slice none 0 0]) ?_ 2 _ rfl; (with_reducible repeat (first | refine blk_drewN ?_ _ | refine blk_drew ?_ | refine blk_alloc ?_ _)); refine blk_put (cs := #[.int .i64 x190000_2, .int .i64 x177001_2, .slice none 0 0, .slice none 0 0, .slice none 0 0]) ?_ 1 _ rfl; (with_reducible repeat (first | refine blk_drewN ?_ _ | refine blk_drew ?_ | refine blk_alloc ?_ _)); refine blk_put (cs := #[.int .i64 x177000_2, .int .i64 x177001_2, .slice none 0 0, .slice none 0 0, .slice none 0 0]) ?_ 0 _ rfl; (with_reducible repeat (first | refine blk_drewN ?_ _ | refine blk_drew ?_ | refine blk_alloc ?_ _)); exact BK176.out) Try.underlying25 rfl (by kernel_rfl)) rfl ?_
                exact ⟨_, _, _, by first | rfl | (simp [errW_none, errW_some] <;> rfl) | (simp [*, errW_none, errW_some] <;> rfl), by (with_reducible repeat (first | apply Kd.R_alloc | apply Kd.R_drewN | apply Kd.R_drew)); exact Kd.R_mono (Kd.R_far (p := ⟨gb176, 4, none⟩) (Kd.R_far (p := ⟨gb176, 3, none⟩) (Kd.R_far (p := ⟨gb176, 2, none⟩) (Kd.R_far (p := ⟨gb176, 1, none⟩) (Kd.R_far (p := ⟨gb176, 0, none⟩) (Kd.R_types HO_190002.out BK176.out (by decide)) (fun _ hk => hk.2) (.int .i64 x190000_2)) (fun _ hk => hk.2) (.int .i64 x190001_2)) (fun _ hk => hk.2) (.slice Ao30 x190002_2.length co30)) (fun _ hk => hk.2) (.slice Ao31 x190003_2.length co31)) (fun _ hk => hk.2) (.slice Ao32 x190004_2.length co32)) (fun _ hk => hk.1.1), by (with_reducible repeat (first | apply Kd.R_alloc | apply Kd.R_drewN | apply Kd.R_drew)); exact Kd.R_mono (Kd.R_far (p := ⟨gb176, 4, none⟩) (Kd.R_far (p := ⟨gb176, 3, none⟩) (Kd.R_far (p := ⟨gb176, 2, none⟩) (Kd.R_far (p := ⟨gb176, 1, none⟩) (Kd.R_far (p := ⟨gb176, 0, none⟩) (Kd.R_types HO_190003.out BK176.out (by decide)) (fun _ hk => hk.2) (.int .i64 x190000_2)) (fun _ hk => hk.2) (.int .i64 x190001_2)) (fun _ hk => hk.2) (.slice Ao30 x190002_2.length co30)) (fun _ hk => hk.2) (.slice Ao31 x190003_2.length co31)) (fun _ hk => hk.2) (.slice Ao32 x190004_2.length co32)) (fun _ hk => hk.1.1), by (with_reducible repeat (first | apply Kd.R_alloc | apply Kd.R_drewN | apply Kd.R_drew)); exact Kd.R_mono (Kd.R_far (p := ⟨gb176, 4, none⟩) (Kd.R_far (p := ⟨gb176, 3, none⟩) (Kd.R_far (p := ⟨gb176, 2, none⟩) (Kd.R_far (p := ⟨gb176, 1, none⟩) (Kd.R_far (p := ⟨gb176, 0, none⟩) (Kd.R_types HO_190004.out BK176.out (by decide)) (fun _ hk => hk.2) (.int .i64 x190000_2)) (fun _ hk => hk.2) (.int .i64 x190001_2)) (fun _ hk => hk.2) (.slice Ao30 x190002_2.length co30)) (fun _ hk => hk.2) (.slice Ao31 x190003_2.length co31)) (fun _ hk => hk.2) (.slice Ao32 x190004_2.length co32)) (fun _ hk => trivial), by repeat (first | (with_reducible first | exact HB.out | apply below_alloc | apply pw_below_drewN | apply below_drew1 | refine below_set ?_ GE176.out | refine below_set ?_ GE189.out | refine below_set ?_ GE203.out) | exact HB.out)⟩
              ·
               rw [if_neg c55] at H
               have c55b0 : (t202 == 0) = false := beq_eq_false_iff_ne.mpr c55
               have c55b1 : (t202 != 0) = true := bne_iff_ne.mpr c55
               have H' := Aside0.mk H
               clear H
               go_wp2
               go_roundg kj28
               case measure => have := HJ3.out; have := HK2.out; have := HJ22.out; have := HJ28.out; omega
               case rel => exact ⟨(wrap64 (x8_2 + 1)), (x177000_2), (x177001_2), (x190000_2), (x190001_2), (x190002_2), (x190003_2), (x190004_2), (.slice Ao30 x190002_2.length co30), (.slice Ao31 x190003_2.length co31), (.slice Ao32 x190004_2.length co32), (by first | rfl | (simp; done) | (simp [*]; done)), H', ⟨by have := HJ3.out; have := HK2.out; have := HJ22.out; have := HJ28.out; omega⟩, ⟨by (with_reducible repeat (first | apply Kd.R_alloc | apply Kd.R_drewN | apply Kd.R_drew)); exact Kd.R_mono HO_190002.out (fun _ hk => hk.1)⟩, ⟨by (with_reducible repeat (first | apply Kd.R_alloc | apply Kd.R_drewN | apply Kd.R_drew)); exact Kd.R_mono HO_190003.out (fun _ hk => hk.1)⟩, ⟨by (with_reducible repeat (first | apply Kd.R_alloc | apply Kd.R_drewN | apply Kd.R_drew)); exact Kd.R_mono HO_190004.out (fun _ hk => trivial)⟩, ⟨by (with_reducible repeat (first | refine blk_drewN ?_ _ | refine blk_drew ?_ | refine blk_alloc ?_ _)); exact BK176.out⟩, ⟨by (with_reducible repeat (first | refine blk_drewN ?_ _ | refine blk_drew ?_ | refine blk_alloc ?_ _)); exact BK189.out⟩, ⟨by repeat (first | (with_reducible first | exact HB.out | apply below_alloc | apply pw_below_drewN | apply below_drew1 | refine below_set ?_ GE176.out | refine below_set ?_ GE189.out | refine below_set ?_ GE203.out) | exact HB.out)⟩⟩
          ·
           rw [if_neg c27] at H
           exact absurd H (by simp)
         ·
          rw [if_neg c26] at H
          exact absurd H (by simp)
        ·
         replace c25 := Bool.eq_false_iff.mpr c25
         subst c25
         have H1 : (some (x190000_2, x190001_2, x190002_2, x190003_2, x190004_2, true)) = some (r1, r2, r3, r4, r5, r6) := by rw [if_neg (show ¬ (false = true) by decide)] at H; exact H
         clear H
         have H := H1
         clear H1
         simp only [Option.some.injEq, Prod.mk.injEq] at H
         obtain ⟨rfl, rfl, rfl, rfl, rfl, rfl⟩ := H
         have hnb68 := NB189_176.out
         have hnc68 := NB176_189.out
         have hcz69_0 : wc.cell? ⟨gb189, 0, none⟩ = some (.int .i64 x190000_2) := (blk_cell BK189.out 0).trans rfl
         have hcz69_1 : wc.cell? ⟨gb189, 1, none⟩ = some (.int .i64 x190001_2) := (blk_cell BK189.out 1).trans rfl
         have hcz69_2 : wc.cell? ⟨gb189, 2, none⟩ = some (u190002) := (blk_cell BK189.out 2).trans rfl
         have hcz69_3 : wc.cell? ⟨gb189, 3, none⟩ = some (u190003) := (blk_cell BK189.out 3).trans rfl
         have hcz69_4 : wc.cell? ⟨gb189, 4, none⟩ = some (u190004) := (blk_cell BK189.out 4).trans rfl
         have hfz69_0 := blk_frozen BK189.out 0
         have hfz69_1 := blk_frozen BK189.out 1
         have hfz69_2 := blk_frozen BK189.out 2
         have hfz69_3 := blk_frozen BK189.out 3
         have hfz69_4 := blk_frozen BK189.out 4
         have hcz70_0 : wc.cell? ⟨gb176, 0, none⟩ = some (.int .i64 x177000_2) := (blk_cell BK176.out 0).trans rfl
         have hcz70_1 : wc.cell? ⟨gb176, 1, none⟩ = some (.int .i64 x177001_2) := (blk_cell BK176.out 1).trans rfl
         have hcz70_2 : wc.cell? ⟨gb176, 2, none⟩ = some (.slice none 0 0) := (blk_cell BK176.out 2).trans rfl
         have hcz70_3 : wc.cell? ⟨gb176, 3, none⟩ = some (.slice none 0 0) := (blk_cell BK176.out 3).trans rfl
         have hcz70_4 : wc.cell? ⟨gb176, 4, none⟩ = some (.slice none 0 0) := (blk_cell BK176.out 4).trans rfl
         have hfz70_0 := blk_frozen BK176.out 0
         have hfz70_1 := blk_frozen BK176.out 1
         have hfz70_2 := blk_frozen BK176.out 2
         have hfz70_3 := blk_frozen BK176.out 3
         have hfz70_4 := blk_frozen BK176.out 4
         obtain ⟨Ao71, co71, eo71⟩ := Kd.R_slice HO_190002.out
         subst eo71
         obtain ⟨Ao72, co72, eo72⟩ := Kd.R_slice HO_190003.out
         subst eo72
         obtain ⟨Ao73, co73, eo73⟩ := Kd.R_slice HO_190004.out
         subst eo73
         go_wp2
         refine bodyPost_ret (results_ct rfl _ _ gb176 25 #[.int .i64 x190000_2, .int .i64 x190001_2, .slice Ao71 x190002_2.length co71, .slice Ao72 x190003_2.length co72, .slice Ao73 x190004_2.length co73] (0, 0) _ rfl (by (with_reducible repeat (first | refine blk_drewN ?_ _ | refine blk_drew ?_ | refine blk_alloc ?_ _)); refine blk_put (cs := #[.int .i64 x190000_2, .int .i64 x190001_2, .slice Ao71 x190002_2.length co71, .slice Ao72 x190003_2.length co72, .slice none 0 0]) ?_ 4 _ rfl; (with_reducible repeat (first | refine blk_drewN ?_ _ | refine blk_drew ?_ | refine blk_alloc ?_ _)); refine blk_put (cs := #[.int .i64 x190000_2, .int .i64 x190001_2, .slice Ao71 x190002_2.length co71, .slice none 0 0, .slice none 0 0]) ?_ 3 _ rfl; (with_reducible repeat (first | refine blk_drewN ?_ _ | refine blk_drew ?_ | refine blk_alloc ?_ _)); refine blk_put (cs := #[.int .i64 x190000_2, .int .i64 x190001_2, .slice none 0 0, .slice none 0 0, .slice none 0 0]) ?_ 2 _ rfl; (with_reducible repeat (first | refine blk_drewN ?_ _ | refine blk_drew ?_ | refine blk_alloc ?_ _)); refine blk_put (cs := #[.int .i64 x190000_2, .int .i64 x177001_2, .slice none 0 0, .slice none 0 0, .slice none 0 0]) ?_ 1 _ rfl; (with_reducible repeat (first | refine blk_drewN ?_ _ | refine blk_drew ?_ | refine blk_alloc ?_ _)); refine blk_put (cs := #[.int .i64 x177000_2, .int .i64 x177001_2, .slice none 0 0, .slice none 0 0, .slice none 0 0]) ?_ 0 _ rfl; (with_reducible repeat (first | refine blk_drewN ?_ _ | refine blk_drew ?_ | refine blk_alloc ?_ _)); exact BK176.out) Try.underlying25 rfl (by kernel_rfl)) rfl ?_
         exact ⟨_, _, _, by first | rfl | (simp [errW_none, errW_some] <;> rfl) | (simp [*, errW_none, errW_some] <;> rfl), by (with_reducible repeat (first | apply Kd.R_alloc | apply Kd.R_drewN | apply Kd.R_drew)); exact Kd.R_mono (Kd.R_far (p := ⟨gb176, 4, none⟩) (Kd.R_far (p := ⟨gb176, 3, none⟩) (Kd.R_far (p := ⟨gb176, 2, none⟩) (Kd.R_far (p := ⟨gb176, 1, none⟩) (Kd.R_far (p := ⟨gb176, 0, none⟩) (Kd.R_types HO_190002.out BK176.out (by decide)) (fun _ hk => hk.2) (.int .i64 x190000_2)) (fun _ hk => hk.2) (.int .i64 x190001_2)) (fun _ hk => hk.2) (.slice Ao71 x190002_2.length co71)) (fun _ hk => hk.2) (.slice Ao72 x190003_2.length co72)) (fun _ hk => hk.2) (.slice Ao73 x190004_2.length co73)) (fun _ hk => hk.1), by (with_reducible repeat (first | apply Kd.R_alloc | apply Kd.R_drewN | apply Kd.R_drew)); exact Kd.R_mono (Kd.R_far (p := ⟨gb176, 4, none⟩) (Kd.R_far (p := ⟨gb176, 3, none⟩) (Kd.R_far (p := ⟨gb176, 2, none⟩) (Kd.R_far (p := ⟨gb176, 1, none⟩) (Kd.R_far (p := ⟨gb176, 0, none⟩) (Kd.R_types HO_190003.out BK176.out (by decide)) (fun _ hk => hk.2) (.int .i64 x190000_2)) (fun _ hk => hk.2) (.int .i64 x190001_2)) (fun _ hk => hk.2) (.slice Ao71 x190002_2.length co71)) (fun _ hk => hk.2) (.slice Ao72 x190003_2.length co72)) (fun _ hk => hk.2) (.slice Ao73 x190004_2.length co73)) (fun _ hk => hk.1), by (with_reducible repeat (first | apply Kd.R_alloc | apply Kd.R_drewN | apply Kd.R_drew)); exact Kd.R_mono (Kd.R_far (p := ⟨gb176, 4, none⟩) (Kd.R_far (p := ⟨gb176, 3, none⟩) (Kd.R_far (p := ⟨gb176, 2, none⟩) (Kd.R_far (p := ⟨gb176, 1, none⟩) (Kd.R_far (p := ⟨gb176, 0, none⟩) (Kd.R_types HO_190004.out BK176.out (by decide)) (fun _ hk => hk.2) (.int .i64 x190000_2)) (fun _ hk => hk.2) (.int .i64 x190001_2)) (fun _ hk => hk.2) (.slice Ao71 x190002_2.length co71)) (fun _ hk => hk.2) (.slice Ao72 x190003_2.length co72)) (fun _ hk => hk.2) (.slice Ao73 x190004_2.length co73)) (fun _ hk => trivial), by repeat (first | (with_reducible first | exact HB.out | apply below_alloc | apply pw_below_drewN | apply below_drew1 | refine below_set ?_ GE176.out | refine below_set ?_ GE189.out) | exact HB.out)⟩

end Go.Proofs.Ytokmnbdnligcaaa.All
