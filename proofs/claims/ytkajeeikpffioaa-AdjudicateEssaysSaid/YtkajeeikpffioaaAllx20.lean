-- Written by myprint.py for this claim: functions of the program as Lean functions, with the proofs that the calls come to them.
import Derived.Test.YtkajeeikpffioaaAllx0
import Derived.Test.YtkajeeikpffioaaAllx1
import Derived.Test.YtkajeeikpffioaaAllx8
namespace Go.Proofs.Ytkajeeikpffioaa.All
open Go.RowKit Go.Proofs.YtkajeeikpffioaaW.PrintWords Go.Proofs.YtkajeeikpffioaaW.PrintLast Go.Proofs.YtkajeeikpffioaaW.PrintMore
attribute [local go_sem] max2_int min2_int max_two min_two max_three min_three max_four min_four   -- for this text's walks alone
set_option linter.unusedVariables false
set_option linter.unusedSimpArgs false

/-! ### adjudicate_Essay: function 10 -/
def adjudicate_Essay.f (k : Nat) (a0_0 : Int) (a0_1 : Int) (a1_0 : Int) (l1_1 : List (S59)) (l2 : List (S31)) (a3 : Int) : Option (Int × Int) := (adjudicate_Pick.f k l2 a3).bind fun bt423 => (if bt423.2 = 0 then ((adjudicate_Score.f k a0_0 a0_1 a1_0 l1_1 bt423.1).bind fun bt427 => (some (bt427.1, bt427.2))) else (some (0, bt423.2)))
theorem adjudicate_Essay.mono : ∀ a0 a1 a2 a3 a4 a5 k, LeO (adjudicate_Essay.f k a0 a1 a2 a3 a4 a5) (adjudicate_Essay.f (k + 1) a0 a1 a2 a3 a4 a5) := by
 intro a0 a1 a2 a3 a4 a5 k
 unfold adjudicate_Essay.f
 repeat' first
   | (with_reducible exact adjudicate_Pick.mono _ _ _)
   | (with_reducible exact adjudicate_Score.mono _ _ _ _ _ _)
   | (with_reducible exact LeO.refl _)
   | (with_reducible exact LeO.none _)
   | (with_reducible refine LeO.ite ?_ ?_)
   | (with_reducible refine LeO.bind ?_ (fun _ => ?_))
   | exact adjudicate_Pick.mono _ _ _
   | exact adjudicate_Score.mono _ _ _ _ _ _
   | exact LeO.none _
   | refine LeO.ite ?_ ?_
   | refine LeO.bind ?_ (fun _ => ?_)
set_option maxHeartbeats 8000000 in
set_option maxRecDepth 100000 in
theorem adjudicate_Essay.calls (k : Nat) (a0_0 : Int) (a0_1 : Int) (a1_0 : Int) (A1_1 : Option Addr) (c1_1 : Nat) (l1_1 : List (S59)) (A2 : Option Addr) (c2 : Nat) (l2 : List (S31)) (a3 : Int) (r1 : Int) (r2 : Int) (w : World) (hr1_1 : Kd.C k59 w A1_1 l1_1.length l1_1) (hc1_1 : l1_1.length ≤ c1_1) (hr2 : Kd.C k31 w A2 l2.length l2) (hc2 : l2.length ≤ c2) (h : adjudicate_Essay.f k a0_0 a0_1 a1_0 l1_1 l2 a3 = some (r1, r2)) :
  Calls Try.prog 10 #[.agg #[.int .i64 a0_0, .int .i64 a0_1], .agg #[.int .i64 a1_0, .slice A1_1 l1_1.length c1_1], .slice A2 l2.length c2, .int .i64 a3] w fun e w' => e = .returned (.tuple #[.int .i64 r1, .int .i64 r2]) ∧ Below w.heap.size w w' := by
 have hu23 := Try.underlying23
 have hu26 := Try.underlying26
 have HR1_1 := Aside0.mk hr1_1
 have HC1_1 := Aside0.mk hc1_1
 clear hr1_1 hc1_1
 have HR2 := Aside0.mk hr2
 have HC2 := Aside0.mk hc2
 clear hr2 hc2
 have HB := Aside0.mk (Below.refl w.heap.size w)
 have H : ((adjudicate_Pick.f k l2 a3).bind fun bt423 => (if bt423.2 = 0 then ((adjudicate_Score.f k a0_0 a0_1 a1_0 l1_1 bt423.1).bind fun bt427 => (some (bt427.1, bt427.2))) else (some (0, bt423.2)))) = some (r1, r2) := h
 clear h
 replace H := Option.bind_eq_some_iff.mp H
 obtain ⟨⟨t423, t424⟩, A50, H⟩ := H
 replace H : (if t424 = 0 then ((adjudicate_Score.f k a0_0 a0_1 a1_0 l1_1 t423).bind fun bt427 => (some (bt427.1, bt427.2))) else (some (0, t424))) = some (r1, r2) := H
 have A5 := Aside0.mk A50
 clear A50
 by_cases c6 : t424 = 0
 ·
  rw [if_pos c6] at H
  have c6b0 : (t424 == 0) = true := beq_iff_eq.mpr c6
  have c6b1 : (t424 != 0) = false := bne_eq_false_iff_eq.mpr c6
  clear c6
  replace H := Option.bind_eq_some_iff.mp H
  obtain ⟨⟨t427, t428⟩, A70, H⟩ := H
  replace H : (some (t427, t428)) = some (r1, r2) := H
  have A7 := Aside0.mk A70
  clear A70
  simp only [Option.some.injEq, Prod.mk.injEq] at H
  obtain ⟨rfl, rfl⟩ := H
  go_enter Try.func10, Try.ntmps10
  go_wp2_with (first | ((with_reducible refine gate_dst (N := 4) rfl ?_); refine box_event ?hg (N := 4) ?hd (cs := #[.int .i64 a0_0, .int .i64 a0_1]) (t := 23) ?hr ?_; (case hd => rfl); (case hg => rfl); (case hr => first | (go_simp; done) | (go_simp; rfl)); intro gb421 hg w8 hbox hb; have n0_ := Aside0.mk (below_step (Bw HB.out) hb); have n1_ := Aside0.mk (hbox); have n2_ := Aside0.mk (Gs hg (Bw HB.out)); have n3_ := Aside0.mk (Gs hg (Bw HB.out)); clear HB; have HB := n0_; have BK421 := n1_; have GW421 := n2_; have GE421 := n3_; clear n0_ n1_ n2_ n3_; clear hb hbox hg) | ((with_reducible refine gate_dst (N := 5) rfl ?_); refine box_event ?hg (N := 5) ?hd (cs := #[.int .i64 a1_0, .slice A1_1 l1_1.length c1_1]) (t := 26) ?hr ?_; (case hd => rfl); (case hg => rfl); (case hr => first | (go_simp; done) | (go_simp; rfl)); intro gb422 hg w9 hbox hb; have n0_ := Aside0.mk (blk_below (g := gb421) (o := .cells #[.int .i64 a0_0, .int .i64 a0_1] 23 (0, 0)) (Bk BK421.out) hb); have n1_ := Aside0.mk (below_step (Bw HB.out) hb); have n2_ := Aside0.mk (hbox); have n3_ := Aside0.mk (Gs hg (Bw HB.out)); have n4_ := Aside0.mk (Gs hg (Bw HB.out)); have n5_ := Aside0.mk ((by rw [hg]; exact Nat.ne_of_lt (blk_lt (g := gb421) (o := .cells #[.int .i64 a0_0, .int .i64 a0_1] 23 (0, 0)) (Bk BK421.out)) : gb421 ≠ gb422)); have n6_ := Aside0.mk ((by rw [hg]; exact Nat.ne_of_gt (blk_lt (g := gb421) (o := .cells #[.int .i64 a0_0, .int .i64 a0_1] 23 (0, 0)) (Bk BK421.out)) : gb422 ≠ gb421)); clear BK421; clear HB; have BK421 := n0_; have HB := n1_; have BK422 := n2_; have GW422 := n3_; have GE422 := n4_; have NB421_422 := n5_; have NB422_421 := n6_; clear n0_ n1_ n2_ n3_ n4_ n5_ n6_; clear hb hbox hg) | ((with_reducible refine gate_callee (f := 9) rfl ?_); refine goesL_ (some 15) rfl rfl Try.func9 (by kernel_rfl) rfl #[.slice A2 l2.length c2, .int .i64 a3] rfl (by (try simp only [List.map_toArray, List.map_cons, List.map_nil]); first | done | rfl | (simp only [List.length_drop, List.length_take]; rfl)) ?_; (with_reducible refine (adjudicate_Pick.calls k _ _ l2 a3 t423 t424 _ ?side1 ?side2 A5.out).mono ?_); (case side1 => exact Ck (Kd.C_below HR2.out HB.out)); (case side2 => exact HC2.out); rintro e w10 ⟨v425, rfl, ho0, hb⟩; refine ⟨_, rfl, ?_⟩; have n0_ := Aside0.mk (Kd.S_lower ho0 (below_size (Bw HB.out))); have n1_ := Aside0.mk (blk_below (g := gb421) (o := .cells #[.int .i64 a0_0, .int .i64 a0_1] 23 (0, 0)) (Bk BK421.out) hb); have n2_ := Aside0.mk (blk_below (g := gb422) (o := .cells #[.int .i64 a1_0, .slice A1_1 l1_1.length c1_1] 26 (0, 0)) (Bk BK422.out) hb); have n3_ := Aside0.mk (below_step (Bw HB.out) hb); clear BK421; clear BK422; clear HB; have HO426 := n0_; have BK421 := n1_; have BK422 := n2_; have HB := n3_; clear n0_ n1_ n2_ n3_; (try clear hb); (try clear hb2); (try clear hk); (try clear hi); (try clear ho0); have hnb11 := NB421_422.out; have hnc11 := NB422_421.out; have hcz12_0 : w10.cell? ⟨gb421, 0, none⟩ = some (.int .i64 a0_0) := (blk_cell BK421.out 0).trans rfl; have hcz12_1 : w10.cell? ⟨gb421, 1, none⟩ = some (.int .i64 a0_1) := (blk_cell BK421.out 1).trans rfl; have hfz12_0 := blk_frozen BK421.out 0; have hfz12_1 := blk_frozen BK421.out 1; have hcz13_0 : w10.cell? ⟨gb422, 0, none⟩ = some (.int .i64 a1_0) := (blk_cell BK422.out 0).trans rfl; have hcz13_1 : w10.cell? ⟨gb422, 1, none⟩ = some (.slice A1_1 l1_1.length c1_1) := (blk_cell BK422.out 1).trans rfl; have hfz13_0 := blk_frozen BK422.out 0; have hfz13_1 := blk_frozen BK422.out 1; obtain ⟨Ao14, co14, eo14⟩ := Kd.S_slice HO426.out; subst eo14) | ((with_reducible refine gate_callee (f := 12) rfl ?_); refine goesL_ (some 24) rfl rfl Try.func12 (by kernel_rfl) rfl #[.agg #[.int .i64 a0_0, .int .i64 a0_1], .agg #[.int .i64 a1_0, .slice A1_1 l1_1.length c1_1], .slice Ao14 t423.length co14] rfl (by (try simp only [List.map_toArray, List.map_cons, List.map_nil]); first | done | rfl | (simp only [List.length_drop, List.length_take]; rfl)) ?_; (with_reducible refine (adjudicate_Score.calls k a0_0 a0_1 a1_0 _ _ l1_1 _ _ t423 t427 t428 _ ?side1 ?side2 ?side3 ?side4 A7.out).mono ?_); (case side1 => exact Ck (Kd.C_below HR1_1.out HB.out)); (case side2 => exact HC1_1.out); (case side3 => exact Ck (Kd.S_reads' HO426.out).2.2); (case side4 => exact (Kd.S_reads' HO426.out).2.1); rintro e w15 ⟨rfl, hb⟩; refine ⟨_, rfl, ?_⟩; have n0_ := Aside0.mk (Kd.S_below (by (with_reducible repeat (first | apply Kd.S_alloc | apply Kd.S_drewN | apply Kd.S_drew)); exact HO426.out) hb); have n1_ := Aside0.mk (blk_below (g := gb421) (o := .cells #[.int .i64 a0_0, .int .i64 a0_1] 23 (0, 0)) (Bk BK421.out) hb); have n2_ := Aside0.mk (blk_below (g := gb422) (o := .cells #[.int .i64 a1_0, .slice A1_1 l1_1.length c1_1] 26 (0, 0)) (Bk BK422.out) hb); have n3_ := Aside0.mk (below_step (Bw HB.out) hb); clear HO426; clear BK421; clear BK422; clear HB; have HO426 := n0_; have BK421 := n1_; have BK422 := n2_; have HB := n3_; clear n0_ n1_ n2_ n3_; (try clear hb); (try clear hb2); (try clear hk); (try clear hi)))
  go_ret2
  exact ⟨Es, Bw HB.out⟩
 ·
  rw [if_neg c6] at H
  have c6b0 : (t424 == 0) = false := beq_eq_false_iff_ne.mpr c6
  have c6b1 : (t424 != 0) = true := bne_iff_ne.mpr c6
  simp only [Option.some.injEq, Prod.mk.injEq] at H
  obtain ⟨rfl, rfl⟩ := H
  go_enter Try.func10, Try.ntmps10
  go_wp2_with (first | ((with_reducible refine gate_dst (N := 4) rfl ?_); refine box_event ?hg (N := 4) ?hd (cs := #[.int .i64 a0_0, .int .i64 a0_1]) (t := 23) ?hr ?_; (case hd => rfl); (case hg => rfl); (case hr => first | (go_simp; done) | (go_simp; rfl)); intro gb421 hg w16 hbox hb; have n0_ := Aside0.mk (below_step (Bw HB.out) hb); have n1_ := Aside0.mk (hbox); have n2_ := Aside0.mk (Gs hg (Bw HB.out)); have n3_ := Aside0.mk (Gs hg (Bw HB.out)); clear HB; have HB := n0_; have BK421 := n1_; have GW421 := n2_; have GE421 := n3_; clear n0_ n1_ n2_ n3_; clear hb hbox hg) | ((with_reducible refine gate_dst (N := 5) rfl ?_); refine box_event ?hg (N := 5) ?hd (cs := #[.int .i64 a1_0, .slice A1_1 l1_1.length c1_1]) (t := 26) ?hr ?_; (case hd => rfl); (case hg => rfl); (case hr => first | (go_simp; done) | (go_simp; rfl)); intro gb422 hg w17 hbox hb; have n0_ := Aside0.mk (blk_below (g := gb421) (o := .cells #[.int .i64 a0_0, .int .i64 a0_1] 23 (0, 0)) (Bk BK421.out) hb); have n1_ := Aside0.mk (below_step (Bw HB.out) hb); have n2_ := Aside0.mk (hbox); have n3_ := Aside0.mk (Gs hg (Bw HB.out)); have n4_ := Aside0.mk (Gs hg (Bw HB.out)); have n5_ := Aside0.mk ((by rw [hg]; exact Nat.ne_of_lt (blk_lt (g := gb421) (o := .cells #[.int .i64 a0_0, .int .i64 a0_1] 23 (0, 0)) (Bk BK421.out)) : gb421 ≠ gb422)); have n6_ := Aside0.mk ((by rw [hg]; exact Nat.ne_of_gt (blk_lt (g := gb421) (o := .cells #[.int .i64 a0_0, .int .i64 a0_1] 23 (0, 0)) (Bk BK421.out)) : gb422 ≠ gb421)); clear BK421; clear HB; have BK421 := n0_; have HB := n1_; have BK422 := n2_; have GW422 := n3_; have GE422 := n4_; have NB421_422 := n5_; have NB422_421 := n6_; clear n0_ n1_ n2_ n3_ n4_ n5_ n6_; clear hb hbox hg) | ((with_reducible refine gate_callee (f := 9) rfl ?_); refine goesL_ (some 15) rfl rfl Try.func9 (by kernel_rfl) rfl #[.slice A2 l2.length c2, .int .i64 a3] rfl (by (try simp only [List.map_toArray, List.map_cons, List.map_nil]); first | done | rfl | (simp only [List.length_drop, List.length_take]; rfl)) ?_; (with_reducible refine (adjudicate_Pick.calls k _ _ l2 a3 t423 t424 _ ?side1 ?side2 A5.out).mono ?_); (case side1 => exact Ck (Kd.C_below HR2.out HB.out)); (case side2 => exact HC2.out); rintro e w18 ⟨v425, rfl, ho0, hb⟩; refine ⟨_, rfl, ?_⟩; have n0_ := Aside0.mk (Kd.S_lower ho0 (below_size (Bw HB.out))); have n1_ := Aside0.mk (blk_below (g := gb421) (o := .cells #[.int .i64 a0_0, .int .i64 a0_1] 23 (0, 0)) (Bk BK421.out) hb); have n2_ := Aside0.mk (blk_below (g := gb422) (o := .cells #[.int .i64 a1_0, .slice A1_1 l1_1.length c1_1] 26 (0, 0)) (Bk BK422.out) hb); have n3_ := Aside0.mk (below_step (Bw HB.out) hb); clear BK421; clear BK422; clear HB; have HO426 := n0_; have BK421 := n1_; have BK422 := n2_; have HB := n3_; clear n0_ n1_ n2_ n3_; (try clear hb); (try clear hb2); (try clear hk); (try clear hi); (try clear ho0)))
  go_ret2
  exact ⟨Es, Bw HB.out⟩

/-! ### examboardref43_copied: function 40 -/
def examboardref43_copied.l0 : Nat → List Int → List Int → Int → Int → Option (List Int)
 | 0, _, _, _, _ => none
 | k + 1, x3, x6, x7, x8 => if x8 < x7 then (if 0 ≤ x8 then (if x8 < (x6.length : Int) then (if x3.length < 17592186044416 then (examboardref43_copied.l0 k (x3 ++ [rd x6 x8]) x6 x7 (wrap64 (x8 + 1))) else (none)) else (none)) else (none)) else (some x3)
def examboardref43_copied.f (k : Nat) (l0 : List Int) : Option (List Int) := examboardref43_copied.l0 k ([] : List Int) l0 (l0.length : Int) 0
theorem examboardref43_copied.mono_l : ∀ k, (∀ y0 y1 y2 y3, LeO (examboardref43_copied.l0 k y0 y1 y2 y3) (examboardref43_copied.l0 (k + 1) y0 y1 y2 y3))
 | 0 => fun _ _ _ _ r h => by simp [examboardref43_copied.l0] at h
 | k + 1 => by
  have ih0 := examboardref43_copied.mono_l k
  ·
   intro y0 y1 y2 y3
   unfold examboardref43_copied.l0
   repeat' first
   | (with_reducible exact ih0 _ _ _ _)
   | (with_reducible exact LeO.refl _)
   | (with_reducible exact LeO.none _)
   | (with_reducible refine LeO.ite ?_ ?_)
   | (with_reducible refine LeO.bind ?_ (fun _ => ?_))
   | exact ih0 _ _ _ _
   | exact LeO.none _
   | refine LeO.ite ?_ ?_
   | refine LeO.bind ?_ (fun _ => ?_)
theorem examboardref43_copied.mono : ∀ a0 k, LeO (examboardref43_copied.f k a0) (examboardref43_copied.f (k + 1) a0) := by
 intro a0 k
 have ih0 := examboardref43_copied.mono_l k
 unfold examboardref43_copied.f
 repeat' first
   | (with_reducible exact ih0 _ _ _ _)
   | (with_reducible exact LeO.refl _)
   | (with_reducible exact LeO.none _)
   | (with_reducible refine LeO.ite ?_ ?_)
   | (with_reducible refine LeO.bind ?_ (fun _ => ?_))
   | exact ih0 _ _ _ _
   | exact LeO.none _
   | refine LeO.ite ?_ ?_
   | refine LeO.bind ?_ (fun _ => ?_)
set_option maxHeartbeats 8000000 in
set_option maxRecDepth 100000 in
theorem examboardref43_copied.calls (k : Nat) (A0 : Option Addr) (c0 : Nat) (l0 : List Int) (r : List Int) (w : World) (hr0 : Kd.C (Kd.int .i64) w A0 l0.length l0) (hc0 : l0.length ≤ c0) (h : examboardref43_copied.f k l0 = some r) :
  Calls Try.prog 40 #[.slice A0 l0.length c0] w fun e w' => ∃ v0_ : Value, e = .returned (v0_) ∧ Kd.R (Kd.int .i64) 3 w' w.heap.size (fun _ => True) v0_ r ∧ Below w.heap.size w w' := by
 have HR0 := Aside0.mk hr0
 have HC0 := Aside0.mk hc0
 clear hr0 hc0
 have HB := Aside0.mk (Below.refl w.heap.size w)
 have H : (examboardref43_copied.l0 k ([] : List Int) l0 (l0.length : Int) 0) = some r := h
 clear h
 have H' := Aside0.mk H
 clear H
 go_enter Try.func40, Try.ntmps40
 go_wp2
 go_loopg [3, 8] k (fun kq v3 v8 w' => ∃ (x3_1 : List Int) (x8_1 : Int), v8 = .int .i64 x8_1 ∧ Aside0 (examboardref43_copied.l0 kq x3_1 l0 (l0.length : Int) x8_1 = some r) ∧ Aside0 (kq ≤ k) ∧ Aside0 (Kd.R (Kd.int .i64) 3 w' w.heap.size (fun _ => True) v3 x3_1) ∧ Aside0 (Below w.heap.size w w'))
 case atStart => exact ⟨(([] : List Int)), (0), (by first | rfl | (simp; done) | (simp [*]; done)), H', ⟨Nat.le_refl _⟩, ⟨by first | exact Kd.R_nil _ _ _ _ _ | exact Kd.N_nil _ _ _ _ _ | exact Kd.V_nil _ _ _ _ _ | exact Kd.Q_nil _ _ _ _ _ | exact Kd.S_nil _ _ _ _ _⟩, ⟨Bw HB.out⟩⟩
 case round =>
  clear H'
  obtain ⟨x3_1, x8_1, rfl, HA, HK1, HO_3, HB⟩ := hrel
  cases gk with
  | zero => exact absurd HA.out (by simp [examboardref43_copied.l0])
  | succ k1 =>
   have H := HA.out
   clear HA
   simp only [examboardref43_copied.l0] at H
   by_cases c2 : x8_1 < (l0.length : Int)
   ·
    rw [if_pos c2] at H
    have c2b0 : decide (x8_1 < (l0.length : Int)) = true := decide_eq_true c2
    clear c2
    by_cases c3 : 0 ≤ x8_1
    ·
     rw [if_pos c3] at H
     have c3b0 : decide (0 ≤ x8_1) = true := decide_eq_true c3
     clear c3
     by_cases c4 : x8_1 < (l0.length : Int)
     ·
      rw [if_pos c4] at H
      have c4b0 : decide (x8_1 < (l0.length : Int)) = true := decide_eq_true c4
      clear c4
      by_cases c5 : x3_1.length < 17592186044416
      ·
       rw [if_pos c5] at H
       have LMc5 := Aside0.mk c5
       clear c5
       obtain ⟨y430, hy430⟩ : ∃ y_ : List Int, y_ = (x3_1 ++ [rd l0 x8_1]) := ⟨_, rfl⟩
       replace H : (examboardref43_copied.l0 k1 y430 l0 (l0.length : Int) (wrap64 (x8_1 + 1))) = some r := by first | (rw [hy430]; with_reducible exact H) | (have H2_ := (Option.bind_some _ _).symm.trans H; rw [hy430]; with_reducible exact H2_) | (have H2_ := (Option.bind_some _ _).symm.trans H; with_reducible exact H2_) | with_reducible exact H | (rw [hy430]; exact H) | exact H
       have Ny430 := Aside0.mk hy430
       clear hy430
       have H' := Aside0.mk H
       clear H
       have p429 : 0 ≤ (x8_1 : Int) := of_decide_eq_true (by first | (with_reducible assumption) | assumption)
       have q429 : x8_1 < (l0.length : Int) := of_decide_eq_true (by first | (with_reducible assumption) | assumption)
       obtain ⟨ad429, e429, hx429_0⟩ := Kd.at_int HR0.out x8_1 p429 q429
       cases e429
       replace hx429_0 := (HB.out.cell (World.block_lt_of_cell? w _ hx429_0)).trans hx429_0
       replace p429 := eq_true p429
       replace q429 := eq_true q429
       go_wp2_with (first | ((with_reducible refine gate_builtin (b := .append) (xs := #[.tmp 12, .tmp 14]) rfl ?_); at_builtin; refine Kd.R_append (Kd.int .i64) (w0 := w) w.heap.size rfl (.tmp 12) (.tmp 14) 29 3 (.int .i64 0) 8 rfl Try.underlying29 info3 rfl (by decide) (by omega) u3 x3_1 (rd l0 x8_1) [.int .i64 (rd l0 x8_1)] (fun _ => True) (fun _ => False) rfl rfl ?aP (fun _ hk => hk.elim) ?aF ?aO ?aB ?aS ?aL ?_; (case aP => exact rfl); (case aB => exact (Bw HB.out)); (case aF => exact (fun _ _ => trivial)); (case aO => exact (Rk HO_3.out)); (case aS => exact (below_size (Bw HB.out))); (case aL => have := LMc5.out; omega); intro v431 w6 ho hb hg hat; rw [← Ny430.out] at ho; have n0_ := Aside0.mk (hb); have n1_ := Aside0.mk (ho); clear HB; clear HO_3; have HB := n0_; have HO432 := n1_; clear n0_ n1_; clear ho hb hg hat))
       go_roundg k1
       case measure => have := HK1.out; omega
       case rel => exact ⟨(y430), (wrap64 (x8_1 + 1)), (by first | rfl | (simp; done) | (simp [*]; done)), H', ⟨by have := HK1.out; omega⟩, ⟨Rk HO432.out⟩, ⟨Bw HB.out⟩⟩
      ·
       rw [if_neg c5] at H
       exact absurd H (by simp)
     ·
      rw [if_neg c4] at H
      exact absurd H (by simp)
    ·
     rw [if_neg c3] at H
     exact absurd H (by simp)
   ·
    rw [if_neg c2] at H
    have c2b0 : decide (x8_1 < (l0.length : Int)) = false := decide_eq_false c2
    clear c2
    obtain rfl := Option.some.inj H
    go_wp2
    go_ret
    exact ⟨_, Es, by (with_reducible repeat (first | apply Kd.R_alloc | apply Kd.R_drewN | apply Kd.R_drew)); exact HO_3.out, Bw HB.out⟩

/-! ### examboardref43_Pick: function 22 -/
mutual
def examboardref43_Pick.l0 : Nat → List (S31) → Int → List (List Int) → List (S31) → Int → Int → Option ((List (List Int)) × Int)
 | 0, _, _, _, _, _, _ => none
 | k + 1, x0, x1, x6, x13, x14, x15 => if x15 < x14 then (if 0 ≤ x15 then (if x15 < (x13.length : Int) then (if ((rd_T31 x13 x15).f1) = x1 then (examboardref43_Pick.l1 k x0 x1 x6 x15 0 x13 x14 x15 ((rd_T31 x13 x15).f0) ((rd_T31 x13 x15).f1) ((rd_T31 x13 x15).f2)) else (examboardref43_Pick.l0 k x0 x1 x6 x13 x14 (wrap64 (x15 + 1)))) else (none)) else (none)) else (some (x6, 0))
def examboardref43_Pick.l1 : Nat → List (S31) → Int → List (List Int) → Int → Int → List (S31) → Int → Int → Int → Int → List Int → Option ((List (List Int)) × Int)
 | 0, _, _, _, _, _, _, _, _, _, _, _ => none
 | k + 1, x0, x1, x6, x7, x9, x13, x14, x15, x435000, x435001, x435002 => if x9 < x7 then (if 0 ≤ x9 then (if x9 < (x0.length : Int) then (if ((rd_T31 x0 x9).f1) = x1 then (if ((rd_T31 x0 x9).f0) = x435000 then (some (([] : List (List Int)), 10)) else (examboardref43_Pick.l1 k x0 x1 x6 x7 (wrap64 (x9 + 1)) x13 x14 x15 x435000 x435001 x435002)) else (examboardref43_Pick.l1 k x0 x1 x6 x7 (wrap64 (x9 + 1)) x13 x14 x15 x435000 x435001 x435002)) else (none)) else (none)) else ((examboardref43_copied.f k x435002).bind fun t437 => (if x6.length < 5864062014805 then (examboardref43_Pick.l0 k x0 x1 (x6 ++ [t437]) x13 x14 (wrap64 (x15 + 1))) else (none)))
end
def examboardref43_Pick.f (k : Nat) (l0 : List (S31)) (a1 : Int) : Option ((List (List Int)) × Int) := if (l0.length : Int) > 300 then (some (([] : List (List Int)), 5)) else (examboardref43_Pick.l0 k l0 a1 ([] : List (List Int)) l0 (l0.length : Int) 0)
theorem examboardref43_Pick.mono_l : ∀ k, (∀ y0 y1 y2 y3 y4 y5, LeO (examboardref43_Pick.l0 k y0 y1 y2 y3 y4 y5) (examboardref43_Pick.l0 (k + 1) y0 y1 y2 y3 y4 y5)) ∧ (∀ y0 y1 y2 y3 y4 y5 y6 y7 y8 y9 y10, LeO (examboardref43_Pick.l1 k y0 y1 y2 y3 y4 y5 y6 y7 y8 y9 y10) (examboardref43_Pick.l1 (k + 1) y0 y1 y2 y3 y4 y5 y6 y7 y8 y9 y10))
 | 0 => ⟨fun _ _ _ _ _ _ r h => by simp [examboardref43_Pick.l0] at h, fun _ _ _ _ _ _ _ _ _ _ _ r h => by simp [examboardref43_Pick.l1] at h⟩
 | k + 1 => by
  obtain ⟨ih0, ih1⟩ := examboardref43_Pick.mono_l k
  refine ⟨?_, ?_⟩
  ·
   intro y0 y1 y2 y3 y4 y5
   unfold examboardref43_Pick.l0
   repeat' first
   | (with_reducible exact ih0 _ _ _ _ _ _)
   | (with_reducible exact ih1 _ _ _ _ _ _ _ _ _ _ _)
   | (with_reducible exact examboardref43_copied.mono _ _)
   | (with_reducible exact LeO.refl _)
   | (with_reducible exact LeO.none _)
   | (with_reducible refine LeO.ite ?_ ?_)
   | (with_reducible refine LeO.bind ?_ (fun _ => ?_))
   | exact ih0 _ _ _ _ _ _
   | exact ih1 _ _ _ _ _ _ _ _ _ _ _
   | exact examboardref43_copied.mono _ _
   | exact LeO.none _
   | refine LeO.ite ?_ ?_
   | refine LeO.bind ?_ (fun _ => ?_)
  ·
   intro y0 y1 y2 y3 y4 y5 y6 y7 y8 y9 y10
   unfold examboardref43_Pick.l1
   repeat' first
   | (with_reducible exact ih0 _ _ _ _ _ _)
   | (with_reducible exact ih1 _ _ _ _ _ _ _ _ _ _ _)
   | (with_reducible exact examboardref43_copied.mono _ _)
   | (with_reducible exact LeO.refl _)
   | (with_reducible exact LeO.none _)
   | (with_reducible refine LeO.ite ?_ ?_)
   | (with_reducible refine LeO.bind ?_ (fun _ => ?_))
   | exact ih0 _ _ _ _ _ _
   | exact ih1 _ _ _ _ _ _ _ _ _ _ _
   | exact examboardref43_copied.mono _ _
   | exact LeO.none _
   | refine LeO.ite ?_ ?_
   | refine LeO.bind ?_ (fun _ => ?_)
theorem examboardref43_Pick.mono : ∀ a0 a1 k, LeO (examboardref43_Pick.f k a0 a1) (examboardref43_Pick.f (k + 1) a0 a1) := by
 intro a0 a1 k
 obtain ⟨ih0, ih1⟩ := examboardref43_Pick.mono_l k
 unfold examboardref43_Pick.f
 repeat' first
   | (with_reducible exact ih0 _ _ _ _ _ _)
   | (with_reducible exact ih1 _ _ _ _ _ _ _ _ _ _ _)
   | (with_reducible exact examboardref43_copied.mono _ _)
   | (with_reducible exact LeO.refl _)
   | (with_reducible exact LeO.none _)
   | (with_reducible refine LeO.ite ?_ ?_)
   | (with_reducible refine LeO.bind ?_ (fun _ => ?_))
   | exact ih0 _ _ _ _ _ _
   | exact ih1 _ _ _ _ _ _ _ _ _ _ _
   | exact examboardref43_copied.mono _ _
   | exact LeO.none _
   | refine LeO.ite ?_ ?_
   | refine LeO.bind ?_ (fun _ => ?_)
set_option maxHeartbeats 8000000 in
set_option maxRecDepth 100000 in
theorem examboardref43_Pick.calls (k : Nat) (A0 : Option Addr) (c0 : Nat) (l0 : List (S31)) (a1 : Int) (r1 : List (List Int)) (r2 : Int) (w : World) (hr0 : Kd.C k31 w A0 l0.length l0) (hc0 : l0.length ≤ c0) (h : examboardref43_Pick.f k l0 a1 = some (r1, r2)) :
  Calls Try.prog 22 #[.slice A0 l0.length c0, .int .i64 a1] w fun e w' => ∃ v0_ : Value, e = .returned (.tuple #[v0_, .int .i64 r2]) ∧ Kd.S (Kd.slice 3 (Kd.int .i64)) 29 w' w.heap.size (fun _ => True) v0_ r1 ∧ Below w.heap.size w w' := by
 have hu31 := Try.underlying31
 have HR0 := Aside0.mk hr0
 have HC0 := Aside0.mk hc0
 clear hr0 hc0
 have HB := Aside0.mk (Below.refl w.heap.size w)
 have H : (if (l0.length : Int) > 300 then (some (([] : List (List Int)), 5)) else (examboardref43_Pick.l0 k l0 a1 ([] : List (List Int)) l0 (l0.length : Int) 0)) = some (r1, r2) := h
 clear h
 by_cases c3 : (l0.length : Int) > 300
 ·
  rw [if_pos c3] at H
  have c3b0 : decide (300 < (l0.length : Int)) = true := decide_eq_true c3
  have c3b1 : decide (300 < l0.length) = true := decide_eq_true (by omega)
  clear c3
  simp only [Option.some.injEq, Prod.mk.injEq] at H
  obtain ⟨rfl, rfl⟩ := H
  go_enter Try.func22, Try.ntmps22
  go_wp2
  repeat (go_quiet (fail); try go_wp2)
  go_ret2
  exact ⟨_, Es, by first | exact Kd.S_nil _ _ _ _ _ | exact Kd.N_nil _ _ _ _ _ | exact Kd.V_nil _ _ _ _ _ | exact Kd.Q_nil _ _ _ _ _ | exact Kd.R_nil _ _ _ _ _, Bw HB.out⟩
 ·
  rw [if_neg c3] at H
  have c3b0 : decide (300 < (l0.length : Int)) = false := decide_eq_false c3
  have c3b1 : decide (300 < l0.length) = false := decide_eq_false (by omega)
  clear c3
  have H' := Aside0.mk H
  clear H
  go_enter Try.func22, Try.ntmps22
  go_wp2
  repeat (go_quiet (fail); try go_wp2)
  go_loopg [6, 15] k (fun kq v6 v15 w' => ∃ (x6_1 : List (List Int)) (x15_1 : Int), v15 = .int .i64 x15_1 ∧ Aside0 (examboardref43_Pick.l0 kq l0 a1 x6_1 l0 (l0.length : Int) x15_1 = some (r1, r2)) ∧ Aside0 (kq ≤ k) ∧ Aside0 (Kd.S (Kd.slice 3 (Kd.int .i64)) 29 w' w.heap.size (fun _ => True) v6 x6_1) ∧ Aside0 (Below w.heap.size w w'))
  case atStart => exact ⟨(([] : List (List Int))), (0), (by first | rfl | (simp; done) | (simp [*]; done)), H', ⟨Nat.le_refl _⟩, ⟨by first | exact Kd.S_nil _ _ _ _ _ | exact Kd.N_nil _ _ _ _ _ | exact Kd.V_nil _ _ _ _ _ | exact Kd.Q_nil _ _ _ _ _ | exact Kd.R_nil _ _ _ _ _⟩, ⟨Bw HB.out⟩⟩
  case round =>
   clear H'
   (try clear c2); (try clear p2); (try clear c3); (try clear c3b0); (try clear c3b1)
   obtain ⟨x6_1, x15_1, rfl, HA, HK1, HO_6, HB⟩ := hrel
   cases gk with
   | zero => exact absurd HA.out (by simp [examboardref43_Pick.l0])
   | succ k1 =>
    have H := HA.out
    clear HA
    simp only [examboardref43_Pick.l0] at H
    by_cases c4 : x15_1 < (l0.length : Int)
    ·
     rw [if_pos c4] at H
     have c4b0 : decide (x15_1 < (l0.length : Int)) = true := decide_eq_true c4
     clear c4
     by_cases c5 : 0 ≤ x15_1
     ·
      rw [if_pos c5] at H
      have c5b0 : decide (0 ≤ x15_1) = true := decide_eq_true c5
      clear c5
      by_cases c6 : x15_1 < (l0.length : Int)
      ·
       rw [if_pos c6] at H
       have c6b0 : decide (x15_1 < (l0.length : Int)) = true := decide_eq_true c6
       clear c6
       by_cases c7 : ((rd_T31 l0 x15_1).f1) = a1
       ·
        rw [if_pos c7] at H
        have c7b0 : (((rd_T31 l0 x15_1).f1) == a1) = true := beq_iff_eq.mpr c7
        have c7b1 : (((rd_T31 l0 x15_1).f1) != a1) = false := bne_eq_false_iff_eq.mpr c7
        clear c7
        have H' := Aside0.mk H
        clear H
        have p433 : 0 ≤ (x15_1 : Int) := of_decide_eq_true (by first | (with_reducible assumption) | assumption)
        have q433 : x15_1 < (l0.length : Int) := of_decide_eq_true (by first | (with_reducible assumption) | assumption)
        obtain ⟨ad433, A433_2, c433_2, e433, hx433_0, hx433_1, hx433_2, hl433_2, hi433_2⟩ := at_T31 HR0.out x15_1 p433 q433
        cases e433
        replace hx433_0 := (HB.out.cell (World.block_lt_of_cell? w _ hx433_0)).trans hx433_0
        replace hx433_1 := (HB.out.cell (World.block_lt_of_cell? w _ hx433_1)).trans hx433_1
        replace hx433_2 := (HB.out.cell (World.block_lt_of_cell? w _ hx433_2)).trans hx433_2
        have HR433_2 := Aside0.mk hi433_2
        have HC433_2 := Aside0.mk hl433_2
        clear hi433_2 hl433_2
        replace p433 := eq_true p433
        replace q433 := eq_true q433
        go_wp2_with (first | ((with_reducible refine gate_dst (N := 8) rfl ?_); refine box_event ?hg (N := 8) ?hd (cs := #[.int .i64 0, .int .i64 0, .slice none 0 0]) (t := 31) ?hr ?_; (case hd => rfl); (case hg => rfl); (case hr => first | (go_simp; done) | (go_simp; rfl)); intro gb434 hg w8 hbox hb; have n0_ := Aside0.mk (Kd.S_below (by (with_reducible repeat (first | apply Kd.S_alloc | apply Kd.S_drewN | apply Kd.S_drew)); exact HO_6.out) hb); have n1_ := Aside0.mk (below_step (Bw HB.out) hb); have n2_ := Aside0.mk (hbox); have n3_ := Aside0.mk (Gs hg (Bw HB.out)); have n4_ := Aside0.mk (Gs hg (Bw HB.out)); clear HO_6; clear HB; have HO_6 := n0_; have HB := n1_; have BK434 := n2_; have GW434 := n3_; have GE434 := n4_; clear n0_ n1_ n2_ n3_ n4_; clear hb hbox hg; have hcz9_0 : w8.cell? ⟨gb434, 0, none⟩ = some (.int .i64 0) := (blk_cell BK434.out 0).trans rfl; have hcz9_1 : w8.cell? ⟨gb434, 1, none⟩ = some (.int .i64 0) := (blk_cell BK434.out 1).trans rfl; have hcz9_2 : w8.cell? ⟨gb434, 2, none⟩ = some (.slice none 0 0) := (blk_cell BK434.out 2).trans rfl; have hfz9_0 := blk_frozen BK434.out 0; have hfz9_1 := blk_frozen BK434.out 1; have hfz9_2 := blk_frozen BK434.out 2))
        repeat (go_quiet (first | ((with_reducible refine gate_dst (N := 8) rfl ?_); refine box_event ?hg (N := 8) ?hd (cs := #[.int .i64 0, .int .i64 0, .slice none 0 0]) (t := 31) ?hr ?_; (case hd => rfl); (case hg => rfl); (case hr => first | (go_simp; done) | (go_simp; rfl)); intro gb434 hg w8 hbox hb; have n0_ := Aside0.mk (Kd.S_below (by (with_reducible repeat (first | apply Kd.S_alloc | apply Kd.S_drewN | apply Kd.S_drew)); exact HO_6.out) hb); have n1_ := Aside0.mk (below_step (Bw HB.out) hb); have n2_ := Aside0.mk (hbox); have n3_ := Aside0.mk (Gs hg (Bw HB.out)); have n4_ := Aside0.mk (Gs hg (Bw HB.out)); clear HO_6; clear HB; have HO_6 := n0_; have HB := n1_; have BK434 := n2_; have GW434 := n3_; have GE434 := n4_; clear n0_ n1_ n2_ n3_ n4_; clear hb hbox hg; have hcz9_0 : w8.cell? ⟨gb434, 0, none⟩ = some (.int .i64 0) := (blk_cell BK434.out 0).trans rfl; have hcz9_1 : w8.cell? ⟨gb434, 1, none⟩ = some (.int .i64 0) := (blk_cell BK434.out 1).trans rfl; have hcz9_2 : w8.cell? ⟨gb434, 2, none⟩ = some (.slice none 0 0) := (blk_cell BK434.out 2).trans rfl; have hfz9_0 := blk_frozen BK434.out 0; have hfz9_1 := blk_frozen BK434.out 1; have hfz9_2 := blk_frozen BK434.out 2)); try go_wp2_with (first | ((with_reducible refine gate_dst (N := 8) rfl ?_); refine box_event ?hg (N := 8) ?hd (cs := #[.int .i64 0, .int .i64 0, .slice none 0 0]) (t := 31) ?hr ?_; (case hd => rfl); (case hg => rfl); (case hr => first | (go_simp; done) | (go_simp; rfl)); intro gb434 hg w8 hbox hb; have n0_ := Aside0.mk (Kd.S_below (by (with_reducible repeat (first | apply Kd.S_alloc | apply Kd.S_drewN | apply Kd.S_drew)); exact HO_6.out) hb); have n1_ := Aside0.mk (below_step (Bw HB.out) hb); have n2_ := Aside0.mk (hbox); have n3_ := Aside0.mk (Gs hg (Bw HB.out)); have n4_ := Aside0.mk (Gs hg (Bw HB.out)); clear HO_6; clear HB; have HO_6 := n0_; have HB := n1_; have BK434 := n2_; have GW434 := n3_; have GE434 := n4_; clear n0_ n1_ n2_ n3_ n4_; clear hb hbox hg; have hcz9_0 : w8.cell? ⟨gb434, 0, none⟩ = some (.int .i64 0) := (blk_cell BK434.out 0).trans rfl; have hcz9_1 : w8.cell? ⟨gb434, 1, none⟩ = some (.int .i64 0) := (blk_cell BK434.out 1).trans rfl; have hcz9_2 : w8.cell? ⟨gb434, 2, none⟩ = some (.slice none 0 0) := (blk_cell BK434.out 2).trans rfl; have hfz9_0 := blk_frozen BK434.out 0; have hfz9_1 := blk_frozen BK434.out 1; have hfz9_2 := blk_frozen BK434.out 2)))
        go_loopg [9] k1 (fun kq v9 w' => ∃ (x9_2 : Int), v9 = .int .i64 x9_2 ∧ Aside0 (examboardref43_Pick.l1 kq l0 a1 x6_1 x15_1 x9_2 l0 (l0.length : Int) x15_1 ((rd_T31 l0 x15_1).f0) ((rd_T31 l0 x15_1).f1) ((rd_T31 l0 x15_1).f2) = some (r1, r2)) ∧ Aside0 (kq ≤ k1) ∧ Aside0 (Kd.S (Kd.slice 3 (Kd.int .i64)) 29 w' w.heap.size (fun _ => True) u6 x6_1) ∧ Aside0 (w'.heap[gb434]? = some (.cells #[.int .i64 ((rd_T31 l0 x15_1).f0), .int .i64 ((rd_T31 l0 x15_1).f1), (.slice A433_2 ((rd_T31 l0 x15_1).f2).length c433_2)] 31 (0, 0))) ∧ Aside0 (Below w.heap.size w w'))
        case atStart => exact ⟨(0), (by first | rfl | (simp; done) | (simp [*]; done)), H', ⟨Nat.le_refl _⟩, ⟨by (with_reducible repeat (first | apply Kd.S_alloc | apply Kd.S_drewN | apply Kd.S_drew)); exact Kd.S_mono (Kd.S_far (p := ⟨gb434, 2, none⟩) (Kd.S_far (p := ⟨gb434, 1, none⟩) (Kd.S_far (p := ⟨gb434, 0, none⟩) (Kd.S_types HO_6.out BK434.out (by decide)) (fun _ hk => hk.2) (.int .i64 ((rd_T31 l0 x15_1).f0))) (fun _ hk => hk.2) (.int .i64 ((rd_T31 l0 x15_1).f1))) (fun _ hk => hk.2) (.slice A433_2 ((rd_T31 l0 x15_1).f2).length c433_2)) (fun _ hk => trivial)⟩, ⟨by (with_reducible repeat (first | refine blk_drewN ?_ _ | refine blk_drew ?_ | refine blk_alloc ?_ _)); refine blk_put (cs := #[.int .i64 ((rd_T31 l0 x15_1).f0), .int .i64 ((rd_T31 l0 x15_1).f1), .slice none 0 0]) ?_ 2 _ rfl; (with_reducible repeat (first | refine blk_drewN ?_ _ | refine blk_drew ?_ | refine blk_alloc ?_ _)); refine blk_put (cs := #[.int .i64 ((rd_T31 l0 x15_1).f0), .int .i64 0, .slice none 0 0]) ?_ 1 _ rfl; (with_reducible repeat (first | refine blk_drewN ?_ _ | refine blk_drew ?_ | refine blk_alloc ?_ _)); refine blk_put (cs := #[.int .i64 0, .int .i64 0, .slice none 0 0]) ?_ 0 _ rfl; (with_reducible repeat (first | refine blk_drewN ?_ _ | refine blk_drew ?_ | refine blk_alloc ?_ _)); exact BK434.out⟩, ⟨Bw HB.out⟩⟩
        case round =>
         clear H'
         (try clear c2); (try clear p2); (try clear c3); (try clear c3b0); (try clear c3b1); (try clear c4); (try clear c4b0); (try clear p4); (try clear q4); (try clear hx4); (try clear c5); (try clear c5b0); (try clear c6); (try clear c6b0); (try clear c7); (try clear c7b0); (try clear c7b1); (try clear hcz9_0); (try clear hcz9_1); (try clear hcz9_2); (try clear hfz9_0); (try clear hfz9_1); (try clear hfz9_2); (try clear hx433_0); (try clear hx433_1); (try clear hx433_2); (try clear p2); (try clear p433); (try clear q433)
         obtain ⟨x9_2, rfl, HA, HK2, HO_6, BK434, HB⟩ := hrel
         cases gk with
         | zero => exact absurd HA.out (by simp [examboardref43_Pick.l1])
         | succ k2 =>
          have H := HA.out
          clear HA
          simp only [examboardref43_Pick.l1] at H
          by_cases c10 : x9_2 < x15_1
          ·
           rw [if_pos c10] at H
           have c10b0 : decide (x9_2 < x15_1) = true := decide_eq_true c10
           clear c10
           by_cases c11 : 0 ≤ x9_2
           ·
            rw [if_pos c11] at H
            have c11b0 : decide (0 ≤ x9_2) = true := decide_eq_true c11
            clear c11
            by_cases c12 : x9_2 < (l0.length : Int)
            ·
             rw [if_pos c12] at H
             have c12b0 : decide (x9_2 < (l0.length : Int)) = true := decide_eq_true c12
             clear c12
             by_cases c13 : ((rd_T31 l0 x9_2).f1) = a1
             ·
              rw [if_pos c13] at H
              have c13b0 : (((rd_T31 l0 x9_2).f1) == a1) = true := beq_iff_eq.mpr c13
              have c13b1 : (((rd_T31 l0 x9_2).f1) != a1) = false := bne_eq_false_iff_eq.mpr c13
              clear c13
              by_cases c14 : ((rd_T31 l0 x9_2).f0) = ((rd_T31 l0 x15_1).f0)
              ·
               rw [if_pos c14] at H
               have c14b0 : (((rd_T31 l0 x9_2).f0) == ((rd_T31 l0 x15_1).f0)) = true := beq_iff_eq.mpr c14
               have c14b1 : (((rd_T31 l0 x9_2).f0) != ((rd_T31 l0 x15_1).f0)) = false := bne_eq_false_iff_eq.mpr c14
               clear c14
               simp only [Option.some.injEq, Prod.mk.injEq] at H
               obtain ⟨rfl, rfl⟩ := H
               have p435 : 0 ≤ (x9_2 : Int) := of_decide_eq_true (by first | (with_reducible assumption) | assumption)
               have q435 : x9_2 < (l0.length : Int) := of_decide_eq_true (by first | (with_reducible assumption) | assumption)
               obtain ⟨ad435, A435_2, c435_2, e435, hx435_0, hx435_1, hx435_2, hl435_2, hi435_2⟩ := at_T31 HR0.out x9_2 p435 q435
               obtain rfl : ad433 = ad435 := (by injection e435)
               replace hx435_0 := (HB.out.cell (World.block_lt_of_cell? w _ hx435_0)).trans hx435_0
               replace hx435_1 := (HB.out.cell (World.block_lt_of_cell? w _ hx435_1)).trans hx435_1
               replace hx435_2 := (HB.out.cell (World.block_lt_of_cell? w _ hx435_2)).trans hx435_2
               have HR435_2 := Aside0.mk hi435_2
               have HC435_2 := Aside0.mk hl435_2
               clear hi435_2 hl435_2
               replace p435 := eq_true p435
               replace q435 := eq_true q435
               have p436 : 0 ≤ (x9_2 : Int) := of_decide_eq_true (by first | (with_reducible assumption) | assumption)
               have q436 : x9_2 < (l0.length : Int) := of_decide_eq_true (by first | (with_reducible assumption) | assumption)
               obtain ⟨ad436, A436_2, c436_2, e436, hx436_0, hx436_1, hx436_2, hl436_2, hi436_2⟩ := at_T31 HR0.out x9_2 p436 q436
               obtain rfl : ad433 = ad436 := (by injection e436)
               replace hx436_0 := (HB.out.cell (World.block_lt_of_cell? w _ hx436_0)).trans hx436_0
               replace hx436_1 := (HB.out.cell (World.block_lt_of_cell? w _ hx436_1)).trans hx436_1
               replace hx436_2 := (HB.out.cell (World.block_lt_of_cell? w _ hx436_2)).trans hx436_2
               have HR436_2 := Aside0.mk hi436_2
               have HC436_2 := Aside0.mk hl436_2
               clear hi436_2 hl436_2
               replace p436 := eq_true p436
               replace q436 := eq_true q436
               have ea_ := Option.some.inj (hx435_2.symm.trans hx436_2)
               injection ea_ with ea_ en_ ec_
               subst ea_
               subst ec_
               clear en_
               have hcz15_0 : wr.cell? ⟨gb434, 0, none⟩ = some (.int .i64 ((rd_T31 l0 x15_1).f0)) := (blk_cell BK434.out 0).trans rfl
               have hcz15_1 : wr.cell? ⟨gb434, 1, none⟩ = some (.int .i64 ((rd_T31 l0 x15_1).f1)) := (blk_cell BK434.out 1).trans rfl
               have hcz15_2 : wr.cell? ⟨gb434, 2, none⟩ = some (.slice A433_2 ((rd_T31 l0 x15_1).f2).length c433_2) := (blk_cell BK434.out 2).trans rfl
               have hfz15_0 := blk_frozen BK434.out 0
               have hfz15_1 := blk_frozen BK434.out 1
               have hfz15_2 := blk_frozen BK434.out 2
               go_wp2
               repeat (go_quiet (fail); try go_wp2)
               go_ret2
               exact ⟨_, Es, by first | exact Kd.S_nil _ _ _ _ _ | exact Kd.N_nil _ _ _ _ _ | exact Kd.V_nil _ _ _ _ _ | exact Kd.Q_nil _ _ _ _ _ | exact Kd.R_nil _ _ _ _ _, Bw HB.out⟩
              ·
               rw [if_neg c14] at H
               have c14b0 : (((rd_T31 l0 x9_2).f0) == ((rd_T31 l0 x15_1).f0)) = false := beq_eq_false_iff_ne.mpr c14
               have c14b1 : (((rd_T31 l0 x9_2).f0) != ((rd_T31 l0 x15_1).f0)) = true := bne_iff_ne.mpr c14
               have H' := Aside0.mk H
               clear H
               have p435 : 0 ≤ (x9_2 : Int) := of_decide_eq_true (by first | (with_reducible assumption) | assumption)
               have q435 : x9_2 < (l0.length : Int) := of_decide_eq_true (by first | (with_reducible assumption) | assumption)
               obtain ⟨ad435, A435_2, c435_2, e435, hx435_0, hx435_1, hx435_2, hl435_2, hi435_2⟩ := at_T31 HR0.out x9_2 p435 q435
               obtain rfl : ad433 = ad435 := (by injection e435)
               replace hx435_0 := (HB.out.cell (World.block_lt_of_cell? w _ hx435_0)).trans hx435_0
               replace hx435_1 := (HB.out.cell (World.block_lt_of_cell? w _ hx435_1)).trans hx435_1
               replace hx435_2 := (HB.out.cell (World.block_lt_of_cell? w _ hx435_2)).trans hx435_2
               have HR435_2 := Aside0.mk hi435_2
               have HC435_2 := Aside0.mk hl435_2
               clear hi435_2 hl435_2
               replace p435 := eq_true p435
               replace q435 := eq_true q435
               have p436 : 0 ≤ (x9_2 : Int) := of_decide_eq_true (by first | (with_reducible assumption) | assumption)
               have q436 : x9_2 < (l0.length : Int) := of_decide_eq_true (by first | (with_reducible assumption) | assumption)
               obtain ⟨ad436, A436_2, c436_2, e436, hx436_0, hx436_1, hx436_2, hl436_2, hi436_2⟩ := at_T31 HR0.out x9_2 p436 q436
               obtain rfl : ad433 = ad436 := (by injection e436)
               replace hx436_0 := (HB.out.cell (World.block_lt_of_cell? w _ hx436_0)).trans hx436_0
               replace hx436_1 := (HB.out.cell (World.block_lt_of_cell? w _ hx436_1)).trans hx436_1
               replace hx436_2 := (HB.out.cell (World.block_lt_of_cell? w _ hx436_2)).trans hx436_2
               have HR436_2 := Aside0.mk hi436_2
               have HC436_2 := Aside0.mk hl436_2
               clear hi436_2 hl436_2
               replace p436 := eq_true p436
               replace q436 := eq_true q436
               have ea_ := Option.some.inj (hx435_2.symm.trans hx436_2)
               injection ea_ with ea_ en_ ec_
               subst ea_
               subst ec_
               clear en_
               have hcz16_0 : wr.cell? ⟨gb434, 0, none⟩ = some (.int .i64 ((rd_T31 l0 x15_1).f0)) := (blk_cell BK434.out 0).trans rfl
               have hcz16_1 : wr.cell? ⟨gb434, 1, none⟩ = some (.int .i64 ((rd_T31 l0 x15_1).f1)) := (blk_cell BK434.out 1).trans rfl
               have hcz16_2 : wr.cell? ⟨gb434, 2, none⟩ = some (.slice A433_2 ((rd_T31 l0 x15_1).f2).length c433_2) := (blk_cell BK434.out 2).trans rfl
               have hfz16_0 := blk_frozen BK434.out 0
               have hfz16_1 := blk_frozen BK434.out 1
               have hfz16_2 := blk_frozen BK434.out 2
               go_wp2
               repeat (go_quiet (fail); try go_wp2)
               go_roundg k2
               case measure => have := HK1.out; have := HK2.out; omega
               case rel => exact ⟨(wrap64 (x9_2 + 1)), (by first | rfl | (simp; done) | (simp [*]; done)), H', ⟨by have := HK1.out; have := HK2.out; omega⟩, ⟨by (with_reducible repeat (first | apply Kd.S_alloc | apply Kd.S_drewN | apply Kd.S_drew)); exact HO_6.out⟩, ⟨Bk BK434.out⟩, ⟨Bw HB.out⟩⟩
             ·
              rw [if_neg c13] at H
              have c13b0 : (((rd_T31 l0 x9_2).f1) == a1) = false := beq_eq_false_iff_ne.mpr c13
              have c13b1 : (((rd_T31 l0 x9_2).f1) != a1) = true := bne_iff_ne.mpr c13
              have H' := Aside0.mk H
              clear H
              have p435 : 0 ≤ (x9_2 : Int) := of_decide_eq_true (by first | (with_reducible assumption) | assumption)
              have q435 : x9_2 < (l0.length : Int) := of_decide_eq_true (by first | (with_reducible assumption) | assumption)
              obtain ⟨ad435, A435_2, c435_2, e435, hx435_0, hx435_1, hx435_2, hl435_2, hi435_2⟩ := at_T31 HR0.out x9_2 p435 q435
              obtain rfl : ad433 = ad435 := (by injection e435)
              replace hx435_0 := (HB.out.cell (World.block_lt_of_cell? w _ hx435_0)).trans hx435_0
              replace hx435_1 := (HB.out.cell (World.block_lt_of_cell? w _ hx435_1)).trans hx435_1
              replace hx435_2 := (HB.out.cell (World.block_lt_of_cell? w _ hx435_2)).trans hx435_2
              have HR435_2 := Aside0.mk hi435_2
              have HC435_2 := Aside0.mk hl435_2
              clear hi435_2 hl435_2
              replace p435 := eq_true p435
              replace q435 := eq_true q435
              go_wp2
              repeat (go_quiet (fail); try go_wp2)
              go_roundg k2
              case measure => have := HK1.out; have := HK2.out; omega
              case rel => exact ⟨(wrap64 (x9_2 + 1)), (by first | rfl | (simp; done) | (simp [*]; done)), H', ⟨by have := HK1.out; have := HK2.out; omega⟩, ⟨by (with_reducible repeat (first | apply Kd.S_alloc | apply Kd.S_drewN | apply Kd.S_drew)); exact HO_6.out⟩, ⟨Bk BK434.out⟩, ⟨Bw HB.out⟩⟩
            ·
             rw [if_neg c12] at H
             exact absurd H (by simp)
           ·
            rw [if_neg c11] at H
            exact absurd H (by simp)
          ·
           rw [if_neg c10] at H
           have c10b0 : decide (x9_2 < x15_1) = false := decide_eq_false c10
           clear c10
           replace H := Option.bind_eq_some_iff.mp H
           obtain ⟨t437, A170, H⟩ := H
           replace H : (if x6_1.length < 5864062014805 then (examboardref43_Pick.l0 k2 l0 a1 (x6_1 ++ [t437]) l0 (l0.length : Int) (wrap64 (x15_1 + 1))) else (none)) = some (r1, r2) := H
           have A17 := Aside0.mk A170
           clear A170
           by_cases c18 : x6_1.length < 5864062014805
           ·
            rw [if_pos c18] at H
            have LMc18 := Aside0.mk c18
            clear c18
            obtain ⟨y440, hy440⟩ : ∃ y_ : List (List Int), y_ = (x6_1 ++ [t437]) := ⟨_, rfl⟩
            replace H : (examboardref43_Pick.l0 k2 l0 a1 y440 l0 (l0.length : Int) (wrap64 (x15_1 + 1))) = some (r1, r2) := by first | (rw [hy440]; with_reducible exact H) | (have H2_ := (Option.bind_some _ _).symm.trans H; rw [hy440]; with_reducible exact H2_) | (have H2_ := (Option.bind_some _ _).symm.trans H; with_reducible exact H2_) | with_reducible exact H | (rw [hy440]; exact H) | exact H
            have Ny440 := Aside0.mk hy440
            clear hy440
            have H' := Aside0.mk H
            clear H
            have hcz19_0 : wr.cell? ⟨gb434, 0, none⟩ = some (.int .i64 ((rd_T31 l0 x15_1).f0)) := (blk_cell BK434.out 0).trans rfl
            have hcz19_1 : wr.cell? ⟨gb434, 1, none⟩ = some (.int .i64 ((rd_T31 l0 x15_1).f1)) := (blk_cell BK434.out 1).trans rfl
            have hcz19_2 : wr.cell? ⟨gb434, 2, none⟩ = some (.slice A433_2 ((rd_T31 l0 x15_1).f2).length c433_2) := (blk_cell BK434.out 2).trans rfl
            have hfz19_0 := blk_frozen BK434.out 0
            have hfz19_1 := blk_frozen BK434.out 1
            have hfz19_2 := blk_frozen BK434.out 2
            go_wp2_with (first | (go_at_call 40; (with_reducible refine (examboardref43_copied.calls k2 _ _ ((rd_T31 l0 x15_1).f2) t437 _ ?side1 ?side2 A17.out).mono ?_); (case side1 => exact Ck (Kd.C_below HR433_2.out HB.out)); (case side2 => exact HC433_2.out); rintro e w20 ⟨v438, rfl, ho0, hb⟩; have n0_ := Aside0.mk (Kd.S_elder' (by (with_reducible repeat (first | apply Kd.S_alloc | apply Kd.S_drewN | apply Kd.S_drew)); exact HO_6.out) (Kd.R_base ho0) hb); have n1_ := Aside0.mk (Kd.R_lower ho0 (below_size (Bw HB.out))); have n2_ := Aside0.mk (blk_below (g := gb434) (o := .cells #[.int .i64 ((rd_T31 l0 x15_1).f0), .int .i64 ((rd_T31 l0 x15_1).f1), .slice A433_2 ((rd_T31 l0 x15_1).f2).length c433_2] 31 (0, 0)) (Bk BK434.out) hb); have n3_ := Aside0.mk (below_step (Bw HB.out) hb); clear HO_6; clear BK434; clear HB; have HO_6 := n0_; have HO439 := n1_; have BK434 := n2_; have HB := n3_; clear n0_ n1_ n2_ n3_; (try clear hb); (try clear hb2); (try clear hk); (try clear hi); (try clear ho0); obtain ⟨Ao22, co22, eo22⟩ := Kd.R_slice HO439.out; subst eo22) | ((with_reducible refine gate_builtin (b := .append) (xs := #[.tmp 46, .tmp 50]) rfl ?_); at_builtin; refine Kd.S_append (Kd.slice 3 (Kd.int .i64)) (w0 := w) w.heap.size rfl (.tmp 46) (.tmp 50) 32 29 (.slice none 0 0) 24 rfl Try.underlying32 info29 rfl (by decide) (by omega) u6 x6_1 t437 [.slice Ao22 t437.length co22] (fun _ => True) (fun k_ => some k_ = (.slice Ao22 t437.length co22 : Value).ownBlock) rfl rfl ?aP (fun k_ hk_ => ((Kd.R_mono (ok' := fun k_ => ((fun _ => True)) k_ ∧ some k_ ≠ (u6 : Value).ownBlock) (Kd.R_apart' (HO439.out) (Kd.S_typed HO_6.out) (by decide)) (fun k_ hk => ⟨trivial, hk.2⟩))).1 k_ hk_.symm) ?aF ?aO ?aB ?aS ?aL ?_; (case aP => exact Kd.M_row (Kd.R_mono (Kd.R_tight rfl (Kd.R_mono (ok' := fun k_ => ((fun _ => True)) k_ ∧ some k_ ≠ (u6 : Value).ownBlock) (Kd.R_apart' (HO439.out) (Kd.S_typed HO_6.out) (by decide)) (fun k_ hk => ⟨trivial, hk.2⟩))) (fun _ h_ => h_))); (case aB => exact (Bw HB.out)); (case aF => exact (fun _ _ => trivial)); (case aO => exact (by (with_reducible repeat (first | apply Kd.S_alloc | apply Kd.S_drewN | apply Kd.S_drew)); exact Kd.S_mono HO_6.out (fun k_ hk => ⟨trivial, fun e_ => hk.2 e_⟩))); (case aS => exact (below_size (Bw HB.out))); (case aL => have := LMc18.out; omega); intro v441 w21 ho hb hg hat; rw [← Ny440.out] at ho; have n0_ := Aside0.mk (blk_grown (g := gb434) (o := .cells #[.int .i64 ((rd_T31 l0 x15_1).f0), .int .i64 ((rd_T31 l0 x15_1).f1), .slice A433_2 ((rd_T31 l0 x15_1).f2).length c433_2] 31 (0, 0)) (Bk BK434.out) hg (Kd.S_ne HO_6.out BK434.out (by decide))); have n1_ := Aside0.mk (hb); have n2_ := Aside0.mk (ho); clear BK434; clear HB; clear HO_6; clear HO439; have BK434 := n0_; have HB := n1_; have HO442 := n2_; clear n0_ n1_ n2_; clear ho hb hg hat))
            repeat (go_quiet (first | (go_at_call 40; (with_reducible refine (examboardref43_copied.calls k2 _ _ ((rd_T31 l0 x15_1).f2) t437 _ ?side1 ?side2 A17.out).mono ?_); (case side1 => exact Ck (Kd.C_below HR433_2.out HB.out)); (case side2 => exact HC433_2.out); rintro e w20 ⟨v438, rfl, ho0, hb⟩; have n0_ := Aside0.mk (Kd.S_elder' (by (with_reducible repeat (first | apply Kd.S_alloc | apply Kd.S_drewN | apply Kd.S_drew)); exact HO_6.out) (Kd.R_base ho0) hb); have n1_ := Aside0.mk (Kd.R_lower ho0 (below_size (Bw HB.out))); have n2_ := Aside0.mk (blk_below (g := gb434) (o := .cells #[.int .i64 ((rd_T31 l0 x15_1).f0), .int .i64 ((rd_T31 l0 x15_1).f1), .slice A433_2 ((rd_T31 l0 x15_1).f2).length c433_2] 31 (0, 0)) (Bk BK434.out) hb); have n3_ := Aside0.mk (below_step (Bw HB.out) hb); clear HO_6; clear BK434; clear HB; have HO_6 := n0_; have HO439 := n1_; have BK434 := n2_; have HB := n3_; clear n0_ n1_ n2_ n3_; (try clear hb); (try clear hb2); (try clear hk); (try clear hi); (try clear ho0); obtain ⟨Ao22, co22, eo22⟩ := Kd.R_slice HO439.out; subst eo22) | ((with_reducible refine gate_builtin (b := .append) (xs := #[.tmp 46, .tmp 50]) rfl ?_); at_builtin; refine Kd.S_append (Kd.slice 3 (Kd.int .i64)) (w0 := w) w.heap.size rfl (.tmp 46) (.tmp 50) 32 29 (.slice none 0 0) 24 rfl Try.underlying32 info29 rfl (by decide) (by omega) u6 x6_1 t437 [.slice Ao22 t437.length co22] (fun _ => True) (fun k_ => some k_ = (.slice Ao22 t437.length co22 : Value).ownBlock) rfl rfl ?aP (fun k_ hk_ => ((Kd.R_mono (ok' := fun k_ => ((fun _ => True)) k_ ∧ some k_ ≠ (u6 : Value).ownBlock) (Kd.R_apart' (HO439.out) (Kd.S_typed HO_6.out) (by decide)) (fun k_ hk => ⟨trivial, hk.2⟩))).1 k_ hk_.symm) ?aF ?aO ?aB ?aS ?aL ?_; (case aP => exact Kd.M_row (Kd.R_mono (Kd.R_tight rfl (Kd.R_mono (ok' := fun k_ => ((fun _ => True)) k_ ∧ some k_ ≠ (u6 : Value).ownBlock) (Kd.R_apart' (HO439.out) (Kd.S_typed HO_6.out) (by decide)) (fun k_ hk => ⟨trivial, hk.2⟩))) (fun _ h_ => h_))); (case aB => exact (Bw HB.out)); (case aF => exact (fun _ _ => trivial)); (case aO => exact (by (with_reducible repeat (first | apply Kd.S_alloc | apply Kd.S_drewN | apply Kd.S_drew)); exact Kd.S_mono HO_6.out (fun k_ hk => ⟨trivial, fun e_ => hk.2 e_⟩))); (case aS => exact (below_size (Bw HB.out))); (case aL => have := LMc18.out; omega); intro v441 w21 ho hb hg hat; rw [← Ny440.out] at ho; have n0_ := Aside0.mk (blk_grown (g := gb434) (o := .cells #[.int .i64 ((rd_T31 l0 x15_1).f0), .int .i64 ((rd_T31 l0 x15_1).f1), .slice A433_2 ((rd_T31 l0 x15_1).f2).length c433_2] 31 (0, 0)) (Bk BK434.out) hg (Kd.S_ne HO_6.out BK434.out (by decide))); have n1_ := Aside0.mk (hb); have n2_ := Aside0.mk (ho); clear BK434; clear HB; clear HO_6; clear HO439; have BK434 := n0_; have HB := n1_; have HO442 := n2_; clear n0_ n1_ n2_; clear ho hb hg hat)); try go_wp2_with (first | (go_at_call 40; (with_reducible refine (examboardref43_copied.calls k2 _ _ ((rd_T31 l0 x15_1).f2) t437 _ ?side1 ?side2 A17.out).mono ?_); (case side1 => exact Ck (Kd.C_below HR433_2.out HB.out)); (case side2 => exact HC433_2.out); rintro e w20 ⟨v438, rfl, ho0, hb⟩; have n0_ := Aside0.mk (Kd.S_elder' (by (with_reducible repeat (first | apply Kd.S_alloc | apply Kd.S_drewN | apply Kd.S_drew)); exact HO_6.out) (Kd.R_base ho0) hb); have n1_ := Aside0.mk (Kd.R_lower ho0 (below_size (Bw HB.out))); have n2_ := Aside0.mk (blk_below (g := gb434) (o := .cells #[.int .i64 ((rd_T31 l0 x15_1).f0), .int .i64 ((rd_T31 l0 x15_1).f1), .slice A433_2 ((rd_T31 l0 x15_1).f2).length c433_2] 31 (0, 0)) (Bk BK434.out) hb); have n3_ := Aside0.mk (below_step (Bw HB.out) hb); clear HO_6; clear BK434; clear HB; have HO_6 := n0_; have HO439 := n1_; have BK434 := n2_; have HB := n3_; clear n0_ n1_ n2_ n3_; (try clear hb); (try clear hb2); (try clear hk); (try clear hi); (try clear ho0); obtain ⟨Ao22, co22, eo22⟩ := Kd.R_slice HO439.out; subst eo22) | ((with_reducible refine gate_builtin (b := .append) (xs := #[.tmp 46, .tmp 50]) rfl ?_); at_builtin; refine Kd.S_append (Kd.slice 3 (Kd.int .i64)) (w0 := w) w.heap.size rfl (.tmp 46) (.tmp 50) 32 29 (.slice none 0 0) 24 rfl Try.underlying32 info29 rfl (by decide) (by omega) u6 x6_1 t437 [.slice Ao22 t437.length co22] (fun _ => True) (fun k_ => some k_ = (.slice Ao22 t437.length co22 : Value).ownBlock) rfl rfl ?aP (fun k_ hk_ => ((Kd.R_mono (ok' := fun k_ => ((fun _ => True)) k_ ∧ some k_ ≠ (u6 : Value).ownBlock) (Kd.R_apart' (HO439.out) (Kd.S_typed HO_6.out) (by decide)) (fun k_ hk => ⟨trivial, hk.2⟩))).1 k_ hk_.symm) ?aF ?aO ?aB ?aS ?aL ?_; (case aP => exact Kd.M_row (Kd.R_mono (Kd.R_tight rfl (Kd.R_mono (ok' := fun k_ => ((fun _ => True)) k_ ∧ some k_ ≠ (u6 : Value).ownBlock) (Kd.R_apart' (HO439.out) (Kd.S_typed HO_6.out) (by decide)) (fun k_ hk => ⟨trivial, hk.2⟩))) (fun _ h_ => h_))); (case aB => exact (Bw HB.out)); (case aF => exact (fun _ _ => trivial)); (case aO => exact (by (with_reducible repeat (first | apply Kd.S_alloc | apply Kd.S_drewN | apply Kd.S_drew)); exact Kd.S_mono HO_6.out (fun k_ hk => ⟨trivial, fun e_ => hk.2 e_⟩))); (case aS => exact (below_size (Bw HB.out))); (case aL => have := LMc18.out; omega); intro v441 w21 ho hb hg hat; rw [← Ny440.out] at ho; have n0_ := Aside0.mk (blk_grown (g := gb434) (o := .cells #[.int .i64 ((rd_T31 l0 x15_1).f0), .int .i64 ((rd_T31 l0 x15_1).f1), .slice A433_2 ((rd_T31 l0 x15_1).f2).length c433_2] 31 (0, 0)) (Bk BK434.out) hg (Kd.S_ne HO_6.out BK434.out (by decide))); have n1_ := Aside0.mk (hb); have n2_ := Aside0.mk (ho); clear BK434; clear HB; clear HO_6; clear HO439; have BK434 := n0_; have HB := n1_; have HO442 := n2_; clear n0_ n1_ n2_; clear ho hb hg hat)))
            go_roundg k2
            case measure => have := HK1.out; have := HK2.out; omega
            case rel => exact ⟨(y440), (wrap64 (x15_1 + 1)), (by first | rfl | (simp; done) | (simp [*]; done)), H', ⟨by have := HK1.out; have := HK2.out; omega⟩, ⟨by (with_reducible repeat (first | apply Kd.S_alloc | apply Kd.S_drewN | apply Kd.S_drew)); exact HO442.out⟩, ⟨Bw HB.out⟩⟩
           ·
            rw [if_neg c18] at H
            exact absurd H (by simp)
       ·
        rw [if_neg c7] at H
        have c7b0 : (((rd_T31 l0 x15_1).f1) == a1) = false := beq_eq_false_iff_ne.mpr c7
        have c7b1 : (((rd_T31 l0 x15_1).f1) != a1) = true := bne_iff_ne.mpr c7
        have H' := Aside0.mk H
        clear H
        have p433 : 0 ≤ (x15_1 : Int) := of_decide_eq_true (by first | (with_reducible assumption) | assumption)
        have q433 : x15_1 < (l0.length : Int) := of_decide_eq_true (by first | (with_reducible assumption) | assumption)
        obtain ⟨ad433, A433_2, c433_2, e433, hx433_0, hx433_1, hx433_2, hl433_2, hi433_2⟩ := at_T31 HR0.out x15_1 p433 q433
        cases e433
        replace hx433_0 := (HB.out.cell (World.block_lt_of_cell? w _ hx433_0)).trans hx433_0
        replace hx433_1 := (HB.out.cell (World.block_lt_of_cell? w _ hx433_1)).trans hx433_1
        replace hx433_2 := (HB.out.cell (World.block_lt_of_cell? w _ hx433_2)).trans hx433_2
        have HR433_2 := Aside0.mk hi433_2
        have HC433_2 := Aside0.mk hl433_2
        clear hi433_2 hl433_2
        replace p433 := eq_true p433
        replace q433 := eq_true q433
        go_wp2_with (first | ((with_reducible refine gate_dst (N := 8) rfl ?_); refine box_event ?hg (N := 8) ?hd (cs := #[.int .i64 0, .int .i64 0, .slice none 0 0]) (t := 31) ?hr ?_; (case hd => rfl); (case hg => rfl); (case hr => first | (go_simp; done) | (go_simp; rfl)); intro gb434 hg w23 hbox hb; have n0_ := Aside0.mk (Kd.S_below (by (with_reducible repeat (first | apply Kd.S_alloc | apply Kd.S_drewN | apply Kd.S_drew)); exact HO_6.out) hb); have n1_ := Aside0.mk (below_step (Bw HB.out) hb); have n2_ := Aside0.mk (hbox); have n3_ := Aside0.mk (Gs hg (Bw HB.out)); have n4_ := Aside0.mk (Gs hg (Bw HB.out)); clear HO_6; clear HB; have HO_6 := n0_; have HB := n1_; have BK434 := n2_; have GW434 := n3_; have GE434 := n4_; clear n0_ n1_ n2_ n3_ n4_; clear hb hbox hg; have hcz24_0 : w23.cell? ⟨gb434, 0, none⟩ = some (.int .i64 0) := (blk_cell BK434.out 0).trans rfl; have hcz24_1 : w23.cell? ⟨gb434, 1, none⟩ = some (.int .i64 0) := (blk_cell BK434.out 1).trans rfl; have hcz24_2 : w23.cell? ⟨gb434, 2, none⟩ = some (.slice none 0 0) := (blk_cell BK434.out 2).trans rfl; have hfz24_0 := blk_frozen BK434.out 0; have hfz24_1 := blk_frozen BK434.out 1; have hfz24_2 := blk_frozen BK434.out 2))
        repeat (go_quiet (first | ((with_reducible refine gate_dst (N := 8) rfl ?_); refine box_event ?hg (N := 8) ?hd (cs := #[.int .i64 0, .int .i64 0, .slice none 0 0]) (t := 31) ?hr ?_; (case hd => rfl); (case hg => rfl); (case hr => first | (go_simp; done) | (go_simp; rfl)); intro gb434 hg w23 hbox hb; have n0_ := Aside0.mk (Kd.S_below (by (with_reducible repeat (first | apply Kd.S_alloc | apply Kd.S_drewN | apply Kd.S_drew)); exact HO_6.out) hb); have n1_ := Aside0.mk (below_step (Bw HB.out) hb); have n2_ := Aside0.mk (hbox); have n3_ := Aside0.mk (Gs hg (Bw HB.out)); have n4_ := Aside0.mk (Gs hg (Bw HB.out)); clear HO_6; clear HB; have HO_6 := n0_; have HB := n1_; have BK434 := n2_; have GW434 := n3_; have GE434 := n4_; clear n0_ n1_ n2_ n3_ n4_; clear hb hbox hg; have hcz24_0 : w23.cell? ⟨gb434, 0, none⟩ = some (.int .i64 0) := (blk_cell BK434.out 0).trans rfl; have hcz24_1 : w23.cell? ⟨gb434, 1, none⟩ = some (.int .i64 0) := (blk_cell BK434.out 1).trans rfl; have hcz24_2 : w23.cell? ⟨gb434, 2, none⟩ = some (.slice none 0 0) := (blk_cell BK434.out 2).trans rfl; have hfz24_0 := blk_frozen BK434.out 0; have hfz24_1 := blk_frozen BK434.out 1; have hfz24_2 := blk_frozen BK434.out 2)); try go_wp2_with (first | ((with_reducible refine gate_dst (N := 8) rfl ?_); refine box_event ?hg (N := 8) ?hd (cs := #[.int .i64 0, .int .i64 0, .slice none 0 0]) (t := 31) ?hr ?_; (case hd => rfl); (case hg => rfl); (case hr => first | (go_simp; done) | (go_simp; rfl)); intro gb434 hg w23 hbox hb; have n0_ := Aside0.mk (Kd.S_below (by (with_reducible repeat (first | apply Kd.S_alloc | apply Kd.S_drewN | apply Kd.S_drew)); exact HO_6.out) hb); have n1_ := Aside0.mk (below_step (Bw HB.out) hb); have n2_ := Aside0.mk (hbox); have n3_ := Aside0.mk (Gs hg (Bw HB.out)); have n4_ := Aside0.mk (Gs hg (Bw HB.out)); clear HO_6; clear HB; have HO_6 := n0_; have HB := n1_; have BK434 := n2_; have GW434 := n3_; have GE434 := n4_; clear n0_ n1_ n2_ n3_ n4_; clear hb hbox hg; have hcz24_0 : w23.cell? ⟨gb434, 0, none⟩ = some (.int .i64 0) := (blk_cell BK434.out 0).trans rfl; have hcz24_1 : w23.cell? ⟨gb434, 1, none⟩ = some (.int .i64 0) := (blk_cell BK434.out 1).trans rfl; have hcz24_2 : w23.cell? ⟨gb434, 2, none⟩ = some (.slice none 0 0) := (blk_cell BK434.out 2).trans rfl; have hfz24_0 := blk_frozen BK434.out 0; have hfz24_1 := blk_frozen BK434.out 1; have hfz24_2 := blk_frozen BK434.out 2)))
        go_roundg k1
        case measure => have := HK1.out; omega
        case rel => exact ⟨(x6_1), (wrap64 (x15_1 + 1)), (by first | rfl | (simp; done) | (simp [*]; done)), H', ⟨by have := HK1.out; omega⟩, ⟨by (with_reducible repeat (first | apply Kd.S_alloc | apply Kd.S_drewN | apply Kd.S_drew)); exact Kd.S_mono (Kd.S_far (p := ⟨gb434, 2, none⟩) (Kd.S_far (p := ⟨gb434, 1, none⟩) (Kd.S_far (p := ⟨gb434, 0, none⟩) (Kd.S_types HO_6.out BK434.out (by decide)) (fun _ hk => hk.2) (.int .i64 ((rd_T31 l0 x15_1).f0))) (fun _ hk => hk.2) (.int .i64 ((rd_T31 l0 x15_1).f1))) (fun _ hk => hk.2) (.slice A433_2 ((rd_T31 l0 x15_1).f2).length c433_2)) (fun _ hk => trivial)⟩, ⟨Bw HB.out⟩⟩
      ·
       rw [if_neg c6] at H
       exact absurd H (by simp)
     ·
      rw [if_neg c5] at H
      exact absurd H (by simp)
    ·
     rw [if_neg c4] at H
     have c4b0 : decide (x15_1 < (l0.length : Int)) = false := decide_eq_false c4
     clear c4
     simp only [Option.some.injEq, Prod.mk.injEq] at H
     obtain ⟨rfl, rfl⟩ := H
     go_wp2
     repeat (go_quiet (fail); try go_wp2)
     go_ret2
     exact ⟨_, Es, by (with_reducible repeat (first | apply Kd.S_alloc | apply Kd.S_drewN | apply Kd.S_drew)); exact HO_6.out, Bw HB.out⟩

end Go.Proofs.Ytkajeeikpffioaa.All
