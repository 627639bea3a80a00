-- Written by myprint.py for this claim: functions of the program as Lean functions, with the proofs that the calls come to them.
import Derived.Test.YtokmnbdnligcaaaAllx0
import Derived.Test.YtokmnbdnligcaaaAllx21
import Derived.Test.YtokmnbdnligcaaaAllx22
namespace Go.Proofs.Ytokmnbdnligcaaa.All
open Go.RowKit Go.Proofs.YtokmnbdnligcaaaW.PrintWords Go.Proofs.YtokmnbdnligcaaaW.PrintLast Go.Proofs.YtokmnbdnligcaaaW.PrintMore
attribute [local go_sem] max2_int min2_int max_two min_two max_three min_three max_four min_four   -- for this text's walks alone
set_option linter.unusedVariables false
set_option linter.unusedSimpArgs false

/-! ### examboardlaw15_ReviewDuties: function 4 -/
mutual
def examboardlaw15_ReviewDuties.j0 : Nat → Int → List (S34) → Bool → Option (Bool)
 | 0, _, _, _ => none
 | k + 1, x0, x1, x13 => if x13 = true then (some true) else ((examboardlaw15_perform.f k x0 x1).bind fun bt207 => (if bt207.2.2.2.2.2 = true then (examboardlaw15_ReviewDuties.j1 k x0 (bt207.2.1 != x0) bt207.1 bt207.2.1 bt207.2.2.1 bt207.2.2.2.1 bt207.2.2.2.2.1) else (examboardlaw15_ReviewDuties.j1 k x0 true bt207.1 bt207.2.1 bt207.2.2.1 bt207.2.2.2.1 bt207.2.2.2.2.1)))
def examboardlaw15_ReviewDuties.j1 : Nat → Int → Bool → Int → Int → List Int → List Int → List (S34) → Option (Bool)
 | 0, _, _, _, _, _, _, _ => none
 | k + 1, x0, x27, x220000, x220001, x220002, x220003, x220004 => if x27 = true then (some false) else (if x220000 = 5 then (examboardlaw15_ReviewDuties.j2 k x0 false x220000 x220001 x220002 x220003 x220004) else (examboardlaw15_ReviewDuties.j2 k x0 (x220000 != 6) x220000 x220001 x220002 x220003 x220004))
def examboardlaw15_ReviewDuties.j2 : Nat → Int → Bool → Int → Int → List Int → List Int → List (S34) → Option (Bool)
 | 0, _, _, _, _, _, _, _ => none
 | k + 1, x0, x35, x220000, x220001, x220002, x220003, x220004 => if x35 = true then (some true) else (if (x220002.length : Int) < 2 then (examboardlaw15_ReviewDuties.j3 k x0 true x220000 x220001 x220002 x220003 x220004) else (if (x220003.length : Int) = 1 then (if 0 < (x220003.length : Int) then (if (rd x220003 0) = x0 then (examboardlaw15_ReviewDuties.j3 k x0 true x220000 x220001 x220002 x220003 x220004) else ((examboardlaw15_among.f k x220002 (rd x220003 0)).bind fun t222 => (examboardlaw15_ReviewDuties.j3 k x0 (decide (t222 > 0)) x220000 x220001 x220002 x220003 x220004))) else (none)) else (examboardlaw15_ReviewDuties.j3 k x0 true x220000 x220001 x220002 x220003 x220004)))
def examboardlaw15_ReviewDuties.j3 : Nat → Int → Bool → Int → Int → List Int → List Int → List (S34) → Option (Bool)
 | 0, _, _, _, _, _, _, _ => none
 | k + 1, x0, x63, x220000, x220001, x220002, x220003, x220004 => if x63 = true then (some false) else (examboardlaw15_ReviewDuties.l0 k x0 0 x220000 x220001 x220002 x220003 x220004)
def examboardlaw15_ReviewDuties.l0 : Nat → Int → Int → Int → Int → List Int → List Int → List (S34) → Option (Bool)
 | 0, _, _, _, _, _, _, _ => none
 | k + 1, x0, x7, x220000, x220001, x220002, x220003, x220004 => if x7 < (x220002.length : Int) then (if 0 ≤ x7 then (if (rd x220002 x7) = x0 then (some false) else ((examboardlaw15_among.f k x220002 (rd x220002 x7)).bind fun t225 => (if t225 = 1 then (examboardlaw15_ReviewDuties.l0 k x0 (wrap64 (x7 + 1)) x220000 x220001 x220002 x220003 x220004) else (some false)))) else (none)) else (some true)
end
def examboardlaw15_ReviewDuties.f (k : Nat) (a0 : Int) (l1 : List (S34)) : Option (Bool) := if a0 < 1 then (examboardlaw15_ReviewDuties.j0 k a0 l1 true) else (examboardlaw15_ReviewDuties.j0 k a0 l1 (decide (a0 > 9999999)))
theorem examboardlaw15_ReviewDuties.mono_l : ∀ k, (∀ y0 y1 y2, LeO (examboardlaw15_ReviewDuties.j0 k y0 y1 y2) (examboardlaw15_ReviewDuties.j0 (k + 1) y0 y1 y2)) ∧ (∀ y0 y1 y2 y3 y4 y5 y6, LeO (examboardlaw15_ReviewDuties.j1 k y0 y1 y2 y3 y4 y5 y6) (examboardlaw15_ReviewDuties.j1 (k + 1) y0 y1 y2 y3 y4 y5 y6)) ∧ (∀ y0 y1 y2 y3 y4 y5 y6, LeO (examboardlaw15_ReviewDuties.j2 k y0 y1 y2 y3 y4 y5 y6) (examboardlaw15_ReviewDuties.j2 (k + 1) y0 y1 y2 y3 y4 y5 y6)) ∧ (∀ y0 y1 y2 y3 y4 y5 y6, LeO (examboardlaw15_ReviewDuties.j3 k y0 y1 y2 y3 y4 y5 y6) (examboardlaw15_ReviewDuties.j3 (k + 1) y0 y1 y2 y3 y4 y5 y6)) ∧ (∀ y0 y1 y2 y3 y4 y5 y6, LeO (examboardlaw15_ReviewDuties.l0 k y0 y1 y2 y3 y4 y5 y6) (examboardlaw15_ReviewDuties.l0 (k + 1) y0 y1 y2 y3 y4 y5 y6))
 | 0 => ⟨fun _ _ _ r h => by simp [examboardlaw15_ReviewDuties.j0] at h, fun _ _ _ _ _ _ _ r h => by simp [examboardlaw15_ReviewDuties.j1] at h, fun _ _ _ _ _ _ _ r h => by simp [examboardlaw15_ReviewDuties.j2] at h, fun _ _ _ _ _ _ _ r h => by simp [examboardlaw15_ReviewDuties.j3] at h, fun _ _ _ _ _ _ _ r h => by simp [examboardlaw15_ReviewDuties.l0] at h⟩
 | k + 1 => by
  obtain ⟨ih0, ih1, ih2, ih3, ih4⟩ := examboardlaw15_ReviewDuties.mono_l k
  refine ⟨?_, ?_, ?_, ?_, ?_⟩
  ·
   intro y0 y1 y2
   unfold examboardlaw15_ReviewDuties.j0
   repeat' first
   | (with_reducible exact ih0 _ _ _)
   | (with_reducible exact ih1 _ _ _ _ _ _ _)
   | (with_reducible exact ih2 _ _ _ _ _ _ _)
   | (with_reducible exact ih3 _ _ _ _ _ _ _)
   | (with_reducible exact ih4 _ _ _ _ _ _ _)
   | (with_reducible exact examboardlaw15_among.mono _ _ _)
   | (with_reducible exact examboardlaw15_perform.mono _ _ _)
   | (with_reducible exact LeO.refl _)
   | (with_reducible exact LeO.none _)
   | (with_reducible refine LeO.ite ?_ ?_)
   | (with_reducible refine LeO.bind ?_ (fun _ => ?_))
   | exact ih0 _ _ _
   | exact ih1 _ _ _ _ _ _ _
   | exact ih2 _ _ _ _ _ _ _
   | exact ih3 _ _ _ _ _ _ _
   | exact ih4 _ _ _ _ _ _ _
   | exact examboardlaw15_among.mono _ _ _
   | exact examboardlaw15_perform.mono _ _ _
   | exact LeO.none _
   | refine LeO.ite ?_ ?_
   | refine LeO.bind ?_ (fun _ => ?_)
  ·
   intro y0 y1 y2 y3 y4 y5 y6
   unfold examboardlaw15_ReviewDuties.j1
   repeat' first
   | (with_reducible exact ih0 _ _ _)
   | (with_reducible exact ih1 _ _ _ _ _ _ _)
   | (with_reducible exact ih2 _ _ _ _ _ _ _)
   | (with_reducible exact ih3 _ _ _ _ _ _ _)
   | (with_reducible exact ih4 _ _ _ _ _ _ _)
   | (with_reducible exact examboardlaw15_among.mono _ _ _)
   | (with_reducible exact examboardlaw15_perform.mono _ _ _)
   | (with_reducible exact LeO.refl _)
   | (with_reducible exact LeO.none _)
   | (with_reducible refine LeO.ite ?_ ?_)
   | (with_reducible refine LeO.bind ?_ (fun _ => ?_))
   | exact ih0 _ _ _
   | exact ih1 _ _ _ _ _ _ _
   | exact ih2 _ _ _ _ _ _ _
   | exact ih3 _ _ _ _ _ _ _
   | exact ih4 _ _ _ _ _ _ _
   | exact examboardlaw15_among.mono _ _ _
   | exact examboardlaw15_perform.mono _ _ _
   | exact LeO.none _
   | refine LeO.ite ?_ ?_
   | refine LeO.bind ?_ (fun _ => ?_)
  ·
   intro y0 y1 y2 y3 y4 y5 y6
   unfold examboardlaw15_ReviewDuties.j2
   repeat' first
   | (with_reducible exact ih0 _ _ _)
   | (with_reducible exact ih1 _ _ _ _ _ _ _)
   | (with_reducible exact ih2 _ _ _ _ _ _ _)
   | (with_reducible exact ih3 _ _ _ _ _ _ _)
   | (with_reducible exact ih4 _ _ _ _ _ _ _)
   | (with_reducible exact examboardlaw15_among.mono _ _ _)
   | (with_reducible exact examboardlaw15_perform.mono _ _ _)
   | (with_reducible exact LeO.refl _)
   | (with_reducible exact LeO.none _)
   | (with_reducible refine LeO.ite ?_ ?_)
   | (with_reducible refine LeO.bind ?_ (fun _ => ?_))
   | exact ih0 _ _ _
   | exact ih1 _ _ _ _ _ _ _
   | exact ih2 _ _ _ _ _ _ _
   | exact ih3 _ _ _ _ _ _ _
   | exact ih4 _ _ _ _ _ _ _
   | exact examboardlaw15_among.mono _ _ _
   | exact examboardlaw15_perform.mono _ _ _
   | exact LeO.none _
   | refine LeO.ite ?_ ?_
   | refine LeO.bind ?_ (fun _ => ?_)
  ·
   intro y0 y1 y2 y3 y4 y5 y6
   unfold examboardlaw15_ReviewDuties.j3
   repeat' first
   | (with_reducible exact ih0 _ _ _)
   | (with_reducible exact ih1 _ _ _ _ _ _ _)
   | (with_reducible exact ih2 _ _ _ _ _ _ _)
   | (with_reducible exact ih3 _ _ _ _ _ _ _)
   | (with_reducible exact ih4 _ _ _ _ _ _ _)
   | (with_reducible exact examboardlaw15_among.mono _ _ _)
   | (with_reducible exact examboardlaw15_perform.mono _ _ _)
   | (with_reducible exact LeO.refl _)
   | (with_reducible exact LeO.none _)
   | (with_reducible refine LeO.ite ?_ ?_)
   | (with_reducible refine LeO.bind ?_ (fun _ => ?_))
   | exact ih0 _ _ _
   | exact ih1 _ _ _ _ _ _ _
   | exact ih2 _ _ _ _ _ _ _
   | exact ih3 _ _ _ _ _ _ _
   | exact ih4 _ _ _ _ _ _ _
   | exact examboardlaw15_among.mono _ _ _
   | exact examboardlaw15_perform.mono _ _ _
   | exact LeO.none _
   | refine LeO.ite ?_ ?_
   | refine LeO.bind ?_ (fun _ => ?_)
  ·
   intro y0 y1 y2 y3 y4 y5 y6
   unfold examboardlaw15_ReviewDuties.l0
   repeat' first
   | (with_reducible exact ih0 _ _ _)
   | (with_reducible exact ih1 _ _ _ _ _ _ _)
   | (with_reducible exact ih2 _ _ _ _ _ _ _)
   | (with_reducible exact ih3 _ _ _ _ _ _ _)
   | (with_reducible exact ih4 _ _ _ _ _ _ _)
   | (with_reducible exact examboardlaw15_among.mono _ _ _)
   | (with_reducible exact examboardlaw15_perform.mono _ _ _)
   | (with_reducible exact LeO.refl _)
   | (with_reducible exact LeO.none _)
   | (with_reducible refine LeO.ite ?_ ?_)
   | (with_reducible refine LeO.bind ?_ (fun _ => ?_))
   | exact ih0 _ _ _
   | exact ih1 _ _ _ _ _ _ _
   | exact ih2 _ _ _ _ _ _ _
   | exact ih3 _ _ _ _ _ _ _
   | exact ih4 _ _ _ _ _ _ _
   | exact examboardlaw15_among.mono _ _ _
   | exact examboardlaw15_perform.mono _ _ _
   | exact LeO.none _
   | refine LeO.ite ?_ ?_
   | refine LeO.bind ?_ (fun _ => ?_)
theorem examboardlaw15_ReviewDuties.mono : ∀ a0 a1 k, LeO (examboardlaw15_ReviewDuties.f k a0 a1) (examboardlaw15_ReviewDuties.f (k + 1) a0 a1) := by
 intro a0 a1 k
 obtain ⟨ih0, ih1, ih2, ih3, ih4⟩ := examboardlaw15_ReviewDuties.mono_l k
 unfold examboardlaw15_ReviewDuties.f
 repeat' first
   | (with_reducible exact ih0 _ _ _)
   | (with_reducible exact ih1 _ _ _ _ _ _ _)
   | (with_reducible exact ih2 _ _ _ _ _ _ _)
   | (with_reducible exact ih3 _ _ _ _ _ _ _)
   | (with_reducible exact ih4 _ _ _ _ _ _ _)
   | (with_reducible exact examboardlaw15_among.mono _ _ _)
   | (with_reducible exact examboardlaw15_perform.mono _ _ _)
   | (with_reducible exact LeO.refl _)
   | (with_reducible exact LeO.none _)
   | (with_reducible refine LeO.ite ?_ ?_)
   | (with_reducible refine LeO.bind ?_ (fun _ => ?_))
   | exact ih0 _ _ _
   | exact ih1 _ _ _ _ _ _ _
   | exact ih2 _ _ _ _ _ _ _
   | exact ih3 _ _ _ _ _ _ _
   | exact ih4 _ _ _ _ _ _ _
   | exact examboardlaw15_among.mono _ _ _
   | exact examboardlaw15_perform.mono _ _ _
   | exact LeO.none _
   | refine LeO.ite ?_ ?_
   | refine LeO.bind ?_ (fun _ => ?_)
set_option maxHeartbeats 8000000 in
set_option maxRecDepth 100000 in
theorem examboardlaw15_ReviewDuties.calls (k : Nat) (a0 : Int) (A1 : Option Addr) (c1 : Nat) (l1 : List (S34)) (r : Bool) (w : World) (hr1 : Kd.C k34 w A1 l1.length l1) (hc1 : l1.length ≤ c1) (h : examboardlaw15_ReviewDuties.f k a0 l1 = some r) :
  Calls Try.prog 4 #[.int .i64 a0, .slice A1 l1.length c1] w fun e w' => e = .returned (.bool r) ∧ Below w.heap.size w w' := by
 have hu25 := Try.underlying25
 have HR1 := Aside0.mk hr1
 have HC1 := Aside0.mk hc1
 clear hr1 hc1
 have HB := Aside0.mk (Below.refl w.heap.size w)
 have H : (if a0 < 1 then (examboardlaw15_ReviewDuties.j0 k a0 l1 true) else (examboardlaw15_ReviewDuties.j0 k a0 l1 (decide (a0 > 9999999)))) = some r := h
 clear h
 have HC3 := Aside0.mk H
 clear H
 go_enter Try.func4, Try.ntmps4
 go_upto_region 1 with (fail)
 repeat (go_quiet (fail); go_upto_region 1 with (fail))
 go_cut [13] (fun v13 wc => ∃ (kq : Nat) (x13_2 : Bool), v13 = .bool x13_2 ∧ Aside0 (examboardlaw15_ReviewDuties.j0 kq a0 l1 x13_2 = some r) ∧ Aside0 (kq ≤ k) ∧ Aside0 (Below w.heap.size w wc))
 case first =>
  have H := HC3.out
  clear HC3
  by_cases c4 : a0 < 1
  ·
   rw [if_pos c4] at H
   have c4b0 : decide (a0 < 1) = true := decide_eq_true c4
   clear c4
   (first | rw [c4b0] | (simp only [i64_w, i32_w]; rw [c4b0]) | skip)
   have H' := Aside0.mk H
   clear H
   go_wp2
   repeat (go_quiet (fail); try go_wp2)
   go_meet
   case rel => exact ⟨_, (true), (by first | rfl | (simp; done) | (simp [*]; done)), H', ⟨by first | omega | exact Nat.le_refl _⟩, ⟨by repeat (first | (with_reducible first | exact HB.out | apply below_alloc | apply pw_below_drewN | apply below_drew1) | exact HB.out)⟩⟩
  ·
   rw [if_neg c4] at H
   have c4b0 : decide (a0 < 1) = false := decide_eq_false c4
   clear c4
   (first | rw [c4b0] | (simp only [i64_w, i32_w]; rw [c4b0]) | skip)
   have H' := Aside0.mk H
   clear H
   go_wp2
   repeat (go_quiet (fail); try go_wp2)
   go_meet
   case rel => exact ⟨_, (decide (a0 > 9999999)), (by first | rfl | (simp; done) | (simp [*]; done)), H', ⟨by first | omega | exact Nat.le_refl _⟩, ⟨by repeat (first | (with_reducible first | exact HB.out | apply below_alloc | apply pw_below_drewN | apply below_drew1) | exact HB.out)⟩⟩
 case rest =>
  clear HC3
  (try clear c1); (try clear p2); (try clear c4); (try clear c4b0)
  obtain ⟨kq, x13_2, rfl, HA, HJ2, HB⟩ := hcut
  cases kq with
  | zero => exact absurd HA.out (by simp [examboardlaw15_ReviewDuties.j0])
  | succ kj2 =>
   have H := HA.out
   clear HA
   simp only [examboardlaw15_ReviewDuties.j0] at H
   by_cases c5 : x13_2 = true
   ·
    subst c5
    have H1 : (some true) = some r := by rw [if_pos rfl] at H; exact H
    clear H
    have H := H1
    clear H1
    obtain rfl := Option.some.inj H
    go_wp2
    repeat (go_quiet (fail); try go_wp2)
    go_ret
    exact ⟨by first | rfl | (simp [errW_none, errW_some] <;> rfl) | (simp [*, errW_none, errW_some] <;> rfl), by repeat (first | (with_reducible first | exact HB.out | apply below_alloc | apply pw_below_drewN | apply below_drew1) | exact HB.out)⟩
   ·
    replace c5 := Bool.eq_false_iff.mpr c5
    subst c5
    have H1 : ((examboardlaw15_perform.f kj2 a0 l1).bind fun bt207 => (if bt207.2.2.2.2.2 = true then (examboardlaw15_ReviewDuties.j1 kj2 a0 (bt207.2.1 != a0) bt207.1 bt207.2.1 bt207.2.2.1 bt207.2.2.2.1 bt207.2.2.2.2.1) else (examboardlaw15_ReviewDuties.j1 kj2 a0 true bt207.1 bt207.2.1 bt207.2.2.1 bt207.2.2.2.1 bt207.2.2.2.2.1))) = some r := by rw [if_neg (show ¬ (false = true) by decide)] at H; exact H
    clear H
    have H := H1
    clear H1
    replace H := Option.bind_eq_some_iff.mp H
    obtain ⟨⟨t207, t208, t209, t212, t215, t218⟩, A60, H⟩ := H
    replace H : (if t218 = true then (examboardlaw15_ReviewDuties.j1 kj2 a0 (t208 != a0) t207 t208 t209 t212 t215) else (examboardlaw15_ReviewDuties.j1 kj2 a0 true t207 t208 t209 t212 t215)) = some r := H
    have A6 := Aside0.mk A60
    clear A60
    have HC7 := Aside0.mk H
    clear H
    go_upto_region 4 with (first | (go_at_call 11; (with_reducible refine (examboardlaw15_perform.calls kj2 a0 _ _ l1 t207 t208 t209 t212 t215 t218 _ ?side1 ?side2 A6.out).mono ?_); (case side1 => repeat (first | exact (Kd.C_below HR1.out HB.out) | (with_reducible refine Kd.C_alloc ?_ _) | (with_reducible refine Kd.C_drewN ?_ _) | (with_reducible refine Kd.C_drew ?_))); (case side2 => exact HC1.out); rintro e w8 ⟨v210, v213, v216, rfl, ho0, ho1, ho2, hb⟩; have n0_ := Aside0.mk (Kd.R_lower ho0 (below_size (by repeat (first | (with_reducible first | exact HB.out | apply below_alloc | apply pw_below_drewN | apply below_drew1) | exact HB.out)))); have n1_ := Aside0.mk (Kd.R_lower ho1 (below_size (by repeat (first | (with_reducible first | exact HB.out | apply below_alloc | apply pw_below_drewN | apply below_drew1) | exact HB.out)))); have n2_ := Aside0.mk (Kd.R_lower ho2 (below_size (by repeat (first | (with_reducible first | exact HB.out | apply below_alloc | apply pw_below_drewN | apply below_drew1) | exact HB.out)))); have n3_ := Aside0.mk (below_step (by repeat (first | (with_reducible first | exact HB.out | apply below_alloc | apply pw_below_drewN | apply below_drew1) | exact HB.out)) hb); clear HB; have HO211 := n0_; have HO214 := n1_; have HO217 := n2_; have HB := n3_; clear n0_ n1_ n2_ n3_; (try clear hb); (try clear hb2); (try clear hk); (try clear hi); (try clear ho0); (try clear ho1); (try clear ho2)) | ((with_reducible refine gate_dst (N := 5) rfl ?_); (try (refine gate_guard (by rfl) ?_; dsimp only)); refine box_event ?hg (N := 5) ?hd (cs := #[.int .i64 0, .int .i64 0, .slice none 0 0, .slice none 0 0, .slice none 0 0]) (t := 25) ?hr ?_; (case hd => rfl); (case hg => rfl); (case hr => first | (go_simp; done) | (go_simp; rfl)); intro gb219 hg w9 hbox hb; have n0_ := Aside0.mk (Kd.R_below (by (with_reducible repeat (first | apply Kd.R_alloc | apply Kd.R_drewN | apply Kd.R_drew)); exact HO211.out) hb); have n1_ := Aside0.mk (Kd.R_below (by (with_reducible repeat (first | apply Kd.R_alloc | apply Kd.R_drewN | apply Kd.R_drew)); exact HO214.out) hb); have n2_ := Aside0.mk (Kd.R_below (by (with_reducible repeat (first | apply Kd.R_alloc | apply Kd.R_drewN | apply Kd.R_drew)); exact HO217.out) hb); have n3_ := Aside0.mk (below_step (by repeat (first | (with_reducible first | exact HB.out | apply below_alloc | apply pw_below_drewN | apply below_drew1) | exact HB.out)) hb); have n4_ := Aside0.mk (hbox); have n5_ := Aside0.mk ((by rw [hg]; exact (below_size (by repeat (first | (with_reducible first | exact HB.out | apply below_alloc | apply pw_below_drewN | apply below_drew1) | exact HB.out))) : w.heap.size ≤ gb219)); have n6_ := Aside0.mk ((by rw [hg]; exact (below_size (by repeat (first | (with_reducible first | exact HB.out | apply below_alloc | apply pw_below_drewN | apply below_drew1) | exact HB.out))) : w.heap.size ≤ gb219)); clear HO211; clear HO214; clear HO217; clear HB; have HO211 := n0_; have HO214 := n1_; have HO217 := n2_; have HB := n3_; have BK219 := n4_; have GW219 := n5_; have GE219 := n6_; clear n0_ n1_ n2_ n3_ n4_ n5_ n6_; clear hb hbox hg; have hcz10_0 : w9.cell? ⟨gb219, 0, none⟩ = some (.int .i64 0) := (blk_cell BK219.out 0).trans rfl; have hcz10_1 : w9.cell? ⟨gb219, 1, none⟩ = some (.int .i64 0) := (blk_cell BK219.out 1).trans rfl; have hcz10_2 : w9.cell? ⟨gb219, 2, none⟩ = some (.slice none 0 0) := (blk_cell BK219.out 2).trans rfl; have hcz10_3 : w9.cell? ⟨gb219, 3, none⟩ = some (.slice none 0 0) := (blk_cell BK219.out 3).trans rfl; have hcz10_4 : w9.cell? ⟨gb219, 4, none⟩ = some (.slice none 0 0) := (blk_cell BK219.out 4).trans rfl; have hfz10_0 := blk_frozen BK219.out 0; have hfz10_1 := blk_frozen BK219.out 1; have hfz10_2 := blk_frozen BK219.out 2; have hfz10_3 := blk_frozen BK219.out 3; have hfz10_4 := blk_frozen BK219.out 4; obtain ⟨Ao11, co11, eo11⟩ := Kd.R_slice HO211.out; subst eo11; obtain ⟨Ao12, co12, eo12⟩ := Kd.R_slice HO214.out; subst eo12; obtain ⟨Ao13, co13, eo13⟩ := Kd.R_slice HO217.out; subst eo13))
    repeat (go_quiet (first | (go_at_call 11; (with_reducible refine (examboardlaw15_perform.calls kj2 a0 _ _ l1 t207 t208 t209 t212 t215 t218 _ ?side1 ?side2 A6.out).mono ?_); (case side1 => repeat (first | exact (Kd.C_below HR1.out HB.out) | (with_reducible refine Kd.C_alloc ?_ _) | (with_reducible refine Kd.C_drewN ?_ _) | (with_reducible refine Kd.C_drew ?_))); (case side2 => exact HC1.out); rintro e w8 ⟨v210, v213, v216, rfl, ho0, ho1, ho2, hb⟩; have n0_ := Aside0.mk (Kd.R_lower ho0 (below_size (by repeat (first | (with_reducible first | exact HB.out | apply below_alloc | apply pw_below_drewN | apply below_drew1) | exact HB.out)))); have n1_ := Aside0.mk (Kd.R_lower ho1 (below_size (by repeat (first | (with_reducible first | exact HB.out | apply below_alloc | apply pw_below_drewN | apply below_drew1) | exact HB.out)))); have n2_ := Aside0.mk (Kd.R_lower ho2 (below_size (by repeat (first | (with_reducible first | exact HB.out | apply below_alloc | apply pw_below_drewN | apply below_drew1) | exact HB.out)))); have n3_ := Aside0.mk (below_step (by repeat (first | (with_reducible first | exact HB.out | apply below_alloc | apply pw_below_drewN | apply below_drew1) | exact HB.out)) hb); clear HB; have HO211 := n0_; have HO214 := n1_; have HO217 := n2_; have HB := n3_; clear n0_ n1_ n2_ n3_; (try clear hb); (try clear hb2); (try clear hk); (try clear hi); (try clear ho0); (try clear ho1); (try clear ho2)) | ((with_reducible refine gate_dst (N := 5) rfl ?_); (try (refine gate_guard (by rfl) ?_; dsimp only)); refine box_event ?hg (N := 5) ?hd (cs := #[.int .i64 0, .int .i64 0, .slice none 0 0, .slice none 0 0, .slice none 0 0]) (t := 25) ?hr ?_; (case hd => rfl); (case hg => rfl); (case hr => first | (go_simp; done) | (go_simp; rfl)); intro gb219 hg w9 hbox hb; have n0_ := Aside0.mk (Kd.R_below (by (with_reducible repeat (first | apply Kd.R_alloc | apply Kd.R_drewN | apply Kd.R_drew)); exact HO211.out) hb); have n1_ := Aside0.mk (Kd.R_below (by (with_reducible repeat (first | apply Kd.R_alloc | apply Kd.R_drewN | apply Kd.R_drew)); exact HO214.out) hb); have n2_ := Aside0.mk (Kd.R_below (by (with_reducible repeat (first | apply Kd.R_alloc | apply Kd.R_drewN | apply Kd.R_drew)); exact HO217.out) hb); have n3_ := Aside0.mk (below_step (by repeat (first | (with_reducible first | exact HB.out | apply below_alloc | apply pw_below_drewN | apply below_drew1) | exact HB.out)) hb); have n4_ := Aside0.mk (hbox); have n5_ := Aside0.mk ((by rw [hg]; exact (below_size (by repeat (first | (with_reducible first | exact HB.out | apply below_alloc | apply pw_below_drewN | apply below_drew1) | exact HB.out))) : w.heap.size ≤ gb219)); have n6_ := Aside0.mk ((by rw [hg]; exact (below_size (by repeat (first | (with_reducible first | exact HB.out | apply below_alloc | apply pw_below_drewN | apply below_drew1) | exact HB.out))) : w.heap.size ≤ gb219)); clear HO211; clear HO214; clear HO217; clear HB; have HO211 := n0_; have HO214 := n1_; have HO217 := n2_; have HB := n3_; have BK219 := n4_; have GW219 := n5_; have GE219 := n6_; clear n0_ n1_ n2_ n3_ n4_ n5_ n6_; clear hb hbox hg; have hcz10_0 : w9.cell? ⟨gb219, 0, none⟩ = some (.int .i64 0) := (blk_cell BK219.out 0).trans rfl; have hcz10_1 : w9.cell? ⟨gb219, 1, none⟩ = some (.int .i64 0) := (blk_cell BK219.out 1).trans rfl; have hcz10_2 : w9.cell? ⟨gb219, 2, none⟩ = some (.slice none 0 0) := (blk_cell BK219.out 2).trans rfl; have hcz10_3 : w9.cell? ⟨gb219, 3, none⟩ = some (.slice none 0 0) := (blk_cell BK219.out 3).trans rfl; have hcz10_4 : w9.cell? ⟨gb219, 4, none⟩ = some (.slice none 0 0) := (blk_cell BK219.out 4).trans rfl; have hfz10_0 := blk_frozen BK219.out 0; have hfz10_1 := blk_frozen BK219.out 1; have hfz10_2 := blk_frozen BK219.out 2; have hfz10_3 := blk_frozen BK219.out 3; have hfz10_4 := blk_frozen BK219.out 4; obtain ⟨Ao11, co11, eo11⟩ := Kd.R_slice HO211.out; subst eo11; obtain ⟨Ao12, co12, eo12⟩ := Kd.R_slice HO214.out; subst eo12; obtain ⟨Ao13, co13, eo13⟩ := Kd.R_slice HO217.out; subst eo13)); go_upto_region 4 with (first | (go_at_call 11; (with_reducible refine (examboardlaw15_perform.calls kj2 a0 _ _ l1 t207 t208 t209 t212 t215 t218 _ ?side1 ?side2 A6.out).mono ?_); (case side1 => repeat (first | exact (Kd.C_below HR1.out HB.out) | (with_reducible refine Kd.C_alloc ?_ _) | (with_reducible refine Kd.C_drewN ?_ _) | (with_reducible refine Kd.C_drew ?_))); (case side2 => exact HC1.out); rintro e w8 ⟨v210, v213, v216, rfl, ho0, ho1, ho2, hb⟩; have n0_ := Aside0.mk (Kd.R_lower ho0 (below_size (by repeat (first | (with_reducible first | exact HB.out | apply below_alloc | apply pw_below_drewN | apply below_drew1) | exact HB.out)))); have n1_ := Aside0.mk (Kd.R_lower ho1 (below_size (by repeat (first | (with_reducible first | exact HB.out | apply below_alloc | apply pw_below_drewN | apply below_drew1) | exact HB.out)))); have n2_ := Aside0.mk (Kd.R_lower ho2 (below_size (by repeat (first | (with_reducible first | exact HB.out | apply below_alloc | apply pw_below_drewN | apply below_drew1) | exact HB.out)))); have n3_ := Aside0.mk (below_step (by repeat (first | (with_reducible first | exact HB.out | apply below_alloc | apply pw_below_drewN | apply below_drew1) | exact HB.out)) hb); clear HB; have HO211 := n0_; have HO214 := n1_; have HO217 := n2_; have HB := n3_; clear n0_ n1_ n2_ n3_; (try clear hb); (try clear hb2); (try clear hk); (try clear hi); (try clear ho0); (try clear ho1); (try clear ho2)) | ((with_reducible refine gate_dst (N := 5) rfl ?_); (try (refine gate_guard (by rfl) ?_; dsimp only)); refine box_event ?hg (N := 5) ?hd (cs := #[.int .i64 0, .int .i64 0, .slice none 0 0, .slice none 0 0, .slice none 0 0]) (t := 25) ?hr ?_; (case hd => rfl); (case hg => rfl); (case hr => first | (go_simp; done) | (go_simp; rfl)); intro gb219 hg w9 hbox hb; have n0_ := Aside0.mk (Kd.R_below (by (with_reducible repeat (first | apply Kd.R_alloc | apply Kd.R_drewN | apply Kd.R_drew)); exact HO211.out) hb); have n1_ := Aside0.mk (Kd.R_below (by (with_reducible repeat (first | apply Kd.R_alloc | apply Kd.R_drewN | apply Kd.R_drew)); exact HO214.out) hb); have n2_ := Aside0.mk (Kd.R_below (by (with_reducible repeat (first | apply Kd.R_alloc | apply Kd.R_drewN | apply Kd.R_drew)); exact HO217.out) hb); have n3_ := Aside0.mk (below_step (by repeat (first | (with_reducible first | exact HB.out | apply below_alloc | apply pw_below_drewN | apply below_drew1) | exact HB.out)) hb); have n4_ := Aside0.mk (hbox); have n5_ := Aside0.mk ((by rw [hg]; exact (below_size (by repeat (first | (with_reducible first | exact HB.out | apply below_alloc | apply pw_below_drewN | apply below_drew1) | exact HB.out))) : w.heap.size ≤ gb219)); have n6_ := Aside0.mk ((by rw [hg]; exact (below_size (by repeat (first | (with_reducible first | exact HB.out | apply below_alloc | apply pw_below_drewN | apply below_drew1) | exact HB.out))) : w.heap.size ≤ gb219)); clear HO211; clear HO214; clear HO217; clear HB; have HO211 := n0_; have HO214 := n1_; have HO217 := n2_; have HB := n3_; have BK219 := n4_; have GW219 := n5_; have GE219 := n6_; clear n0_ n1_ n2_ n3_ n4_ n5_ n6_; clear hb hbox hg; have hcz10_0 : w9.cell? ⟨gb219, 0, none⟩ = some (.int .i64 0) := (blk_cell BK219.out 0).trans rfl; have hcz10_1 : w9.cell? ⟨gb219, 1, none⟩ = some (.int .i64 0) := (blk_cell BK219.out 1).trans rfl; have hcz10_2 : w9.cell? ⟨gb219, 2, none⟩ = some (.slice none 0 0) := (blk_cell BK219.out 2).trans rfl; have hcz10_3 : w9.cell? ⟨gb219, 3, none⟩ = some (.slice none 0 0) := (blk_cell BK219.out 3).trans rfl; have hcz10_4 : w9.cell? ⟨gb219, 4, none⟩ = some (.slice none 0 0) := (blk_cell BK219.out 4).trans rfl; have hfz10_0 := blk_frozen BK219.out 0; have hfz10_1 := blk_frozen BK219.out 1; have hfz10_2 := blk_frozen BK219.out 2; have hfz10_3 := blk_frozen BK219.out 3; have hfz10_4 := blk_frozen BK219.out 4; obtain ⟨Ao11, co11, eo11⟩ := Kd.R_slice HO211.out; subst eo11; obtain ⟨Ao12, co12, eo12⟩ := Kd.R_slice HO214.out; subst eo12; obtain ⟨Ao13, co13, eo13⟩ := Kd.R_slice HO217.out; subst eo13)))
    (try simp only [Act.put, List.setIfInBounds_toArray, List.set_cons_zero, List.set_cons_succ])
    go_cut [27] (fun v27 wc => ∃ (kq : Nat) (x27_6 : Bool), v27 = .bool x27_6 ∧ Aside0 (examboardlaw15_ReviewDuties.j1 kq a0 x27_6 t207 t208 t209 t212 t215 = some r) ∧ Aside0 (kq ≤ kj2) ∧ Aside0 (Kd.R (Kd.int .i64) 3 wc w.heap.size (fun k_ => some k_ ≠ ((.slice Ao12 t212.length co12) : Value).ownBlock) (.slice Ao11 t209.length co11) t209) ∧ Aside0 (Kd.R (Kd.int .i64) 3 wc w.heap.size (fun k_ => some k_ ≠ ((.slice Ao11 t209.length co11) : Value).ownBlock) (.slice Ao12 t212.length co12) t212) ∧ Aside0 (Kd.R k34 34 wc w.heap.size (fun _ => True) (.slice Ao13 t215.length co13) t215) ∧ Aside0 (wc.heap[gb219]? = some (.cells #[.int .i64 t207, .int .i64 t208, (.slice Ao11 t209.length co11), (.slice Ao12 t212.length co12), (.slice Ao13 t215.length co13)] 25 (0, 0))) ∧ Aside0 (Below w.heap.size w wc))
    case first =>
     have H := HC7.out
     clear HC7
     by_cases c14 : t218 = true
     ·
      subst c14
      have H1 : (examboardlaw15_ReviewDuties.j1 kj2 a0 (t208 != a0) t207 t208 t209 t212 t215) = some r := by rw [if_pos rfl] at H; exact H
      clear H
      have H := H1
      clear H1
      have H' := Aside0.mk H
      clear H
      have hcz15_0 : w9.cell? ⟨gb219, 0, none⟩ = some (.int .i64 0) := (blk_cell BK219.out 0).trans rfl
      have hcz15_1 : w9.cell? ⟨gb219, 1, none⟩ = some (.int .i64 0) := (blk_cell BK219.out 1).trans rfl
      have hcz15_2 : w9.cell? ⟨gb219, 2, none⟩ = some (.slice none 0 0) := (blk_cell BK219.out 2).trans rfl
      have hcz15_3 : w9.cell? ⟨gb219, 3, none⟩ = some (.slice none 0 0) := (blk_cell BK219.out 3).trans rfl
      have hcz15_4 : w9.cell? ⟨gb219, 4, none⟩ = some (.slice none 0 0) := (blk_cell BK219.out 4).trans rfl
      have hfz15_0 := blk_frozen BK219.out 0
      have hfz15_1 := blk_frozen BK219.out 1
      have hfz15_2 := blk_frozen BK219.out 2
      have hfz15_3 := blk_frozen BK219.out 3
      have hfz15_4 := blk_frozen BK219.out 4
      go_wp2
      repeat (go_quiet (fail); try go_wp2)
      go_meet
      case rel => exact ⟨_, ((t208 != a0)), (by first | rfl | (simp; done) | (simp [*]; done)), H', ⟨by have := HJ2.out; first | omega | exact Nat.le_refl _⟩, ⟨by (with_reducible repeat (first | apply Kd.R_alloc | apply Kd.R_drewN | apply Kd.R_drew)); exact Kd.R_mono (Kd.R_far (p := ⟨gb219, 4, none⟩) (Kd.R_far (p := ⟨gb219, 3, none⟩) (Kd.R_far (p := ⟨gb219, 2, none⟩) (Kd.R_far (p := ⟨gb219, 1, none⟩) (Kd.R_far (p := ⟨gb219, 0, none⟩) (Kd.R_types HO211.out BK219.out (by decide)) (fun _ hk => hk.2) (.int .i64 t207)) (fun _ hk => hk.2) (.int .i64 t208)) (fun _ hk => hk.2) (.slice Ao11 t209.length co11)) (fun _ hk => hk.2) (.slice Ao12 t212.length co12)) (fun _ hk => hk.2) (.slice Ao13 t215.length co13)) (fun _ hk => hk.1)⟩, ⟨by (with_reducible repeat (first | apply Kd.R_alloc | apply Kd.R_drewN | apply Kd.R_drew)); exact Kd.R_mono (Kd.R_far (p := ⟨gb219, 4, none⟩) (Kd.R_far (p := ⟨gb219, 3, none⟩) (Kd.R_far (p := ⟨gb219, 2, none⟩) (Kd.R_far (p := ⟨gb219, 1, none⟩) (Kd.R_far (p := ⟨gb219, 0, none⟩) (Kd.R_types HO214.out BK219.out (by decide)) (fun _ hk => hk.2) (.int .i64 t207)) (fun _ hk => hk.2) (.int .i64 t208)) (fun _ hk => hk.2) (.slice Ao11 t209.length co11)) (fun _ hk => hk.2) (.slice Ao12 t212.length co12)) (fun _ hk => hk.2) (.slice Ao13 t215.length co13)) (fun _ hk => hk.1)⟩, ⟨by (with_reducible repeat (first | apply Kd.R_alloc | apply Kd.R_drewN | apply Kd.R_drew)); exact Kd.R_mono (Kd.R_far (p := ⟨gb219, 4, none⟩) (Kd.R_far (p := ⟨gb219, 3, none⟩) (Kd.R_far (p := ⟨gb219, 2, none⟩) (Kd.R_far (p := ⟨gb219, 1, none⟩) (Kd.R_far (p := ⟨gb219, 0, none⟩) (Kd.R_types HO217.out BK219.out (by decide)) (fun _ hk => hk.2) (.int .i64 t207)) (fun _ hk => hk.2) (.int .i64 t208)) (fun _ hk => hk.2) (.slice Ao11 t209.length co11)) (fun _ hk => hk.2) (.slice Ao12 t212.length co12)) (fun _ hk => hk.2) (.slice Ao13 t215.length co13)) (fun _ hk => trivial)⟩, ⟨by (with_reducible repeat (first | refine blk_drewN ?_ _ | refine blk_drew ?_ | refine blk_alloc ?_ _)); refine blk_put (cs := #[.int .i64 t207, .int .i64 t208, .slice Ao11 t209.length co11, .slice Ao12 t212.length co12, .slice none 0 0]) ?_ 4 _ rfl; (with_reducible repeat (first | refine blk_drewN ?_ _ | refine blk_drew ?_ | refine blk_alloc ?_ _)); refine blk_put (cs := #[.int .i64 t207, .int .i64 t208, .slice Ao11 t209.length co11, .slice none 0 0, .slice none 0 0]) ?_ 3 _ rfl; (with_reducible repeat (first | refine blk_drewN ?_ _ | refine blk_drew ?_ | refine blk_alloc ?_ _)); refine blk_put (cs := #[.int .i64 t207, .int .i64 t208, .slice none 0 0, .slice none 0 0, .slice none 0 0]) ?_ 2 _ rfl; (with_reducible repeat (first | refine blk_drewN ?_ _ | refine blk_drew ?_ | refine blk_alloc ?_ _)); refine blk_put (cs := #[.int .i64 t207, .int .i64 0, .slice none 0 0, .slice none 0 0, .slice none 0 0]) ?_ 1 _ rfl; (with_reducible repeat (first | refine blk_drewN ?_ _ | refine blk_drew ?_ | refine blk_alloc ?_ _)); refine blk_put (cs := #[.int .i64 0, .int .i64 0, .slice none 0 0, .slice none 0 0, .slice none 0 0]) ?_ 0 _ rfl; (with_reducible repeat (first | refine blk_drewN ?_ _ | refine blk_drew ?_ | refine blk_alloc ?_ _)); exact BK219.out⟩, ⟨by repeat (first | (with_reducible first | exact HB.out | apply below_alloc | apply pw_below_drewN | apply below_drew1 | refine below_set ?_ GE219.out) | exact HB.out)⟩⟩
     ·
      replace c14 := Bool.eq_false_iff.mpr c14
      subst c14
      have H1 : (examboardlaw15_ReviewDuties.j1 kj2 a0 true t207 t208 t209 t212 t215) = some r := by rw [if_neg (show ¬ (false = true) by decide)] at H; exact H
      clear H
      have H := H1
      clear H1
      have H' := Aside0.mk H
      clear H
      go_wp2
      repeat (go_quiet (fail); try go_wp2)
      go_meet
      case rel => exact ⟨_, (true), (by first | rfl | (simp; done) | (simp [*]; done)), H', ⟨by have := HJ2.out; first | omega | exact Nat.le_refl _⟩, ⟨by (with_reducible repeat (first | apply Kd.R_alloc | apply Kd.R_drewN | apply Kd.R_drew)); exact Kd.R_mono (Kd.R_far (p := ⟨gb219, 4, none⟩) (Kd.R_far (p := ⟨gb219, 3, none⟩) (Kd.R_far (p := ⟨gb219, 2, none⟩) (Kd.R_far (p := ⟨gb219, 1, none⟩) (Kd.R_far (p := ⟨gb219, 0, none⟩) (Kd.R_types HO211.out BK219.out (by decide)) (fun _ hk => hk.2) (.int .i64 t207)) (fun _ hk => hk.2) (.int .i64 t208)) (fun _ hk => hk.2) (.slice Ao11 t209.length co11)) (fun _ hk => hk.2) (.slice Ao12 t212.length co12)) (fun _ hk => hk.2) (.slice Ao13 t215.length co13)) (fun _ hk => hk.1)⟩, ⟨by (with_reducible repeat (first | apply Kd.R_alloc | apply Kd.R_drewN | apply Kd.R_drew)); exact Kd.R_mono (Kd.R_far (p := ⟨gb219, 4, none⟩) (Kd.R_far (p := ⟨gb219, 3, none⟩) (Kd.R_far (p := ⟨gb219, 2, none⟩) (Kd.R_far (p := ⟨gb219, 1, none⟩) (Kd.R_far (p := ⟨gb219, 0, none⟩) (Kd.R_types HO214.out BK219.out (by decide)) (fun _ hk => hk.2) (.int .i64 t207)) (fun _ hk => hk.2) (.int .i64 t208)) (fun _ hk => hk.2) (.slice Ao11 t209.length co11)) (fun _ hk => hk.2) (.slice Ao12 t212.length co12)) (fun _ hk => hk.2) (.slice Ao13 t215.length co13)) (fun _ hk => hk.1)⟩, ⟨by (with_reducible repeat (first | apply Kd.R_alloc | apply Kd.R_drewN | apply Kd.R_drew)); exact Kd.R_mono (Kd.R_far (p := ⟨gb219, 4, none⟩) (Kd.R_far (p := ⟨gb219, 3, none⟩) (Kd.R_far (p := ⟨gb219, 2, none⟩) (Kd.R_far (p := ⟨gb219, 1, none⟩) (Kd.R_far (p := ⟨gb219, 0, none⟩) (Kd.R_types HO217.out BK219.out (by decide)) (fun _ hk => hk.2) (.int .i64 t207)) (fun _ hk => hk.2) (.int .i64 t208)) (fun _ hk => hk.2) (.slice Ao11 t209.length co11)) (fun _ hk => hk.2) (.slice Ao12 t212.length co12)) (fun _ hk => hk.2) (.slice Ao13 t215.length co13)) (fun _ hk => trivial)⟩, ⟨by (with_reducible repeat (first | refine blk_drewN ?_ _ | refine blk_drew ?_ | refine blk_alloc ?_ _)); refine blk_put (cs := #[.int .i64 t207, .int .i64 t208, .slice Ao11 t209.length co11, .slice Ao12 t212.length co12, .slice none 0 0]) ?_ 4 _ rfl; (with_reducible repeat (first | refine blk_drewN ?_ _ | refine blk_drew ?_ | refine blk_alloc ?_ _)); refine blk_put (cs := #[.int .i64 t207, .int .i64 t208, .slice Ao11 t209.length co11, .slice none 0 0, .slice none 0 0]) ?_ 3 _ rfl; (with_reducible repeat (first | refine blk_drewN ?_ _ | refine blk_drew ?_ | refine blk_alloc ?_ _)); refine blk_put (cs := #[.int .i64 t207, .int .i64 t208, .slice none 0 0, .slice none 0 0, .slice none 0 0]) ?_ 2 _ rfl; (with_reducible repeat (first | refine blk_drewN ?_ _ | refine blk_drew ?_ | refine blk_alloc ?_ _)); refine blk_put (cs := #[.int .i64 t207, .int .i64 0, .slice none 0 0, .slice none 0 0, .slice none 0 0]) ?_ 1 _ rfl; (with_reducible repeat (first | refine blk_drewN ?_ _ | refine blk_drew ?_ | refine blk_alloc ?_ _)); refine blk_put (cs := #[.int .i64 0, .int .i64 0, .slice none 0 0, .slice none 0 0, .slice none 0 0]) ?_ 0 _ rfl; (with_reducible repeat (first | refine blk_drewN ?_ _ | refine blk_drew ?_ | refine blk_alloc ?_ _)); exact BK219.out⟩, ⟨by repeat (first | (with_reducible first | exact HB.out | apply below_alloc | apply pw_below_drewN | apply below_drew1 | refine below_set ?_ GE219.out) | exact HB.out)⟩⟩
    case rest =>
     clear HC7
     (try clear c1); (try clear p2); (try clear c4); (try clear c4b0); (try clear c5); (try clear c14); (try clear hcz10_0); (try clear hcz10_1); (try clear hcz10_2); (try clear hcz10_3); (try clear hcz10_4); (try clear hcz15_0); (try clear hcz15_1); (try clear hcz15_2); (try clear hcz15_3); (try clear hcz15_4); (try clear hfz10_0); (try clear hfz10_1); (try clear hfz10_2); (try clear hfz10_3); (try clear hfz10_4); (try clear hfz15_0); (try clear hfz15_1); (try clear hfz15_2); (try clear hfz15_3); (try clear hfz15_4); (try clear p2)
     obtain ⟨kq, x27_6, rfl, HA, HJ6, HO_220002, HO_220003, HO_220004, BK219, HB⟩ := hcut
     cases kq with
     | zero => exact absurd HA.out (by simp [examboardlaw15_ReviewDuties.j1])
     | succ kj6 =>
      have H := HA.out
      clear HA
      simp only [examboardlaw15_ReviewDuties.j1] at H
      by_cases c16 : x27_6 = true
      ·
       subst c16
       have H1 : (some false) = some r := by rw [if_pos rfl] at H; exact H
       clear H
       have H := H1
       clear H1
       obtain rfl := Option.some.inj H
       go_wp2
       repeat (go_quiet (fail); try go_wp2)
       go_ret
       exact ⟨by first | rfl | (simp [errW_none, errW_some] <;> rfl) | (simp [*, errW_none, errW_some] <;> rfl), by repeat (first | (with_reducible first | exact HB.out | apply below_alloc | apply pw_below_drewN | apply below_drew1 | refine below_set ?_ GE219.out) | exact HB.out)⟩
      ·
       replace c16 := Bool.eq_false_iff.mpr c16
       subst c16
       have H1 : (if t207 = 5 then (examboardlaw15_ReviewDuties.j2 kj6 a0 false t207 t208 t209 t212 t215) else (examboardlaw15_ReviewDuties.j2 kj6 a0 (t207 != 6) t207 t208 t209 t212 t215)) = some r := by rw [if_neg (show ¬ (false = true) by decide)] at H; exact H
       clear H
       have H := H1
       clear H1
       have HC17 := Aside0.mk H
       clear H
       go_upto_region 6 with (fail)
       repeat (go_quiet (fail); go_upto_region 6 with (fail))
       go_cut [35] (fun v35 wc => ∃ (kq : Nat) (x35_16 : Bool), v35 = .bool x35_16 ∧ Aside0 (examboardlaw15_ReviewDuties.j2 kq a0 x35_16 t207 t208 t209 t212 t215 = some r) ∧ Aside0 (kq ≤ kj6) ∧ Aside0 (Kd.R (Kd.int .i64) 3 wc w.heap.size (fun k_ => some k_ ≠ ((.slice Ao12 t212.length co12) : Value).ownBlock) (.slice Ao11 t209.length co11) t209) ∧ Aside0 (Kd.R (Kd.int .i64) 3 wc w.heap.size (fun k_ => some k_ ≠ ((.slice Ao11 t209.length co11) : Value).ownBlock) (.slice Ao12 t212.length co12) t212) ∧ Aside0 (Kd.R k34 34 wc w.heap.size (fun _ => True) (.slice Ao13 t215.length co13) t215) ∧ Aside0 (wc.heap[gb219]? = some (.cells #[.int .i64 t207, .int .i64 t208, (.slice Ao11 t209.length co11), (.slice Ao12 t212.length co12), (.slice Ao13 t215.length co13)] 25 (0, 0))) ∧ Aside0 (Below w.heap.size w wc))
       case first =>
        have H := HC17.out
        clear HC17
        by_cases c18 : t207 = 5
        ·
         rw [if_pos c18] at H
         have c18b0 : (t207 == 5) = true := beq_iff_eq.mpr c18
         have c18b1 : (t207 != 5) = false := bne_eq_false_iff_eq.mpr c18
         clear c18
         (first | rw [c18b0] | (simp only [i64_w, i32_w]; rw [c18b0]) | skip)
         have H' := Aside0.mk H
         clear H
         have hcz19_0 : wc.cell? ⟨gb219, 0, none⟩ = some (.int .i64 t207) := (blk_cell BK219.out 0).trans rfl
         have hcz19_1 : wc.cell? ⟨gb219, 1, none⟩ = some (.int .i64 t208) := (blk_cell BK219.out 1).trans rfl
         have hcz19_2 : wc.cell? ⟨gb219, 2, none⟩ = some (.slice Ao11 t209.length co11) := (blk_cell BK219.out 2).trans rfl
         have hcz19_3 : wc.cell? ⟨gb219, 3, none⟩ = some (.slice Ao12 t212.length co12) := (blk_cell BK219.out 3).trans rfl
         have hcz19_4 : wc.cell? ⟨gb219, 4, none⟩ = some (.slice Ao13 t215.length co13) := (blk_cell BK219.out 4).trans rfl
         have hfz19_0 := blk_frozen BK219.out 0
         have hfz19_1 := blk_frozen BK219.out 1
         have hfz19_2 := blk_frozen BK219.out 2
         have hfz19_3 := blk_frozen BK219.out 3
         have hfz19_4 := blk_frozen BK219.out 4
         go_wp2
         repeat (go_quiet (fail); try go_wp2)
         go_meet
         case rel => exact ⟨_, (false), (by first | rfl | (simp; done) | (simp [*]; done)), H', ⟨by have := HJ2.out; have := HJ6.out; first | omega | exact Nat.le_refl _⟩, ⟨by (with_reducible repeat (first | apply Kd.R_alloc | apply Kd.R_drewN | apply Kd.R_drew)); exact HO_220002.out⟩, ⟨by (with_reducible repeat (first | apply Kd.R_alloc | apply Kd.R_drewN | apply Kd.R_drew)); exact HO_220003.out⟩, ⟨by (with_reducible repeat (first | apply Kd.R_alloc | apply Kd.R_drewN | apply Kd.R_drew)); exact HO_220004.out⟩, ⟨by (with_reducible repeat (first | refine blk_drewN ?_ _ | refine blk_drew ?_ | refine blk_alloc ?_ _)); exact BK219.out⟩, ⟨by repeat (first | (with_reducible first | exact HB.out | apply below_alloc | apply pw_below_drewN | apply below_drew1 | refine below_set ?_ GE219.out) | exact HB.out)⟩⟩
        ·
         rw [if_neg c18] at H
         have c18b0 : (t207 == 5) = false := beq_eq_false_iff_ne.mpr c18
         have c18b1 : (t207 != 5) = true := bne_iff_ne.mpr c18
         (first | rw [c18b0] | (simp only [i64_w, i32_w]; rw [c18b0]) | skip)
         have H' := Aside0.mk H
         clear H
         have hcz20_0 : wc.cell? ⟨gb219, 0, none⟩ = some (.int .i64 t207) := (blk_cell BK219.out 0).trans rfl
         have hcz20_1 : wc.cell? ⟨gb219, 1, none⟩ = some (.int .i64 t208) := (blk_cell BK219.out 1).trans rfl
         have hcz20_2 : wc.cell? ⟨gb219, 2, none⟩ = some (.slice Ao11 t209.length co11) := (blk_cell BK219.out 2).trans rfl
         have hcz20_3 : wc.cell? ⟨gb219, 3, none⟩ = some (.slice Ao12 t212.length co12) := (blk_cell BK219.out 3).trans rfl
         have hcz20_4 : wc.cell? ⟨gb219, 4, none⟩ = some (.slice Ao13 t215.length co13) := (blk_cell BK219.out 4).trans rfl
         have hfz20_0 := blk_frozen BK219.out 0
         have hfz20_1 := blk_frozen BK219.out 1
         have hfz20_2 := blk_frozen BK219.out 2
         have hfz20_3 := blk_frozen BK219.out 3
         have hfz20_4 := blk_frozen BK219.out 4
         go_wp2
         repeat (go_quiet (fail); try go_wp2)
         go_meet
         case rel => exact ⟨_, ((t207 != 6)), (by first | rfl | (simp; done) | (simp [*]; done)), H', ⟨by have := HJ2.out; have := HJ6.out; first | omega | exact Nat.le_refl _⟩, ⟨by (with_reducible repeat (first | apply Kd.R_alloc | apply Kd.R_drewN | apply Kd.R_drew)); exact HO_220002.out⟩, ⟨by (with_reducible repeat (first | apply Kd.R_alloc | apply Kd.R_drewN | apply Kd.R_drew)); exact HO_220003.out⟩, ⟨by (with_reducible repeat (first | apply Kd.R_alloc | apply Kd.R_drewN | apply Kd.R_drew)); exact HO_220004.out⟩, ⟨by (with_reducible repeat (first | refine blk_drewN ?_ _ | refine blk_drew ?_ | refine blk_alloc ?_ _)); exact BK219.out⟩, ⟨by repeat (first | (with_reducible first | exact HB.out | apply below_alloc | apply pw_below_drewN | apply below_drew1 | refine below_set ?_ GE219.out) | exact HB.out)⟩⟩
       case rest =>
        clear HC17
        (try clear c1); (try clear p2); (try clear c4); (try clear c4b0); (try clear c5); (try clear c14); (try clear c16); (try clear c18); (try clear c18b0); (try clear c18b1); (try clear hcz10_0); (try clear hcz10_1); (try clear hcz10_2); (try clear hcz10_3); (try clear hcz10_4); (try clear hcz15_0); (try clear hcz15_1); (try clear hcz15_2); (try clear hcz15_3); (try clear hcz15_4); (try clear hcz19_0); (try clear hcz19_1); (try clear hcz19_2); (try clear hcz19_3); (try clear hcz19_4); (try clear hcz20_0); (try clear hcz20_1); (try clear hcz20_2); (try clear hcz20_3); (try clear hcz20_4); (try clear hfz10_0); (try clear hfz10_1); (try clear hfz10_2); (try clear hfz10_3); (try clear hfz10_4); (try clear hfz15_0); (try clear hfz15_1); (try clear hfz15_2); (try clear hfz15_3); (try clear hfz15_4); (try clear hfz19_0); (try clear hfz19_1); (try clear hfz19_2); (try clear hfz19_3); (try clear hfz19_4); (try clear hfz20_0); (try clear hfz20_1); (try clear hfz20_2); (try clear hfz20_3); (try clear hfz20_4); (try clear p2)
        obtain ⟨kq, x35_16, rfl, HA, HJ16, HO_220002, HO_220003, HO_220004, BK219, HB⟩ := hcut
        cases kq with
        | zero => exact absurd HA.out (by simp [examboardlaw15_ReviewDuties.j2])
        | succ kj16 =>
         have H := HA.out
         clear HA
         simp only [examboardlaw15_ReviewDuties.j2] at H
         by_cases c21 : x35_16 = true
         ·
          subst c21
          have H1 : (some true) = some r := by rw [if_pos rfl] at H; exact H
          clear H
          have H := H1
          clear H1
          obtain rfl := Option.some.inj H
          go_wp2
          repeat (go_quiet (fail); try go_wp2)
          go_ret
          exact ⟨by first | rfl | (simp [errW_none, errW_some] <;> rfl) | (simp [*, errW_none, errW_some] <;> rfl), by repeat (first | (with_reducible first | exact HB.out | apply below_alloc | apply pw_below_drewN | apply below_drew1 | refine below_set ?_ GE219.out) | exact HB.out)⟩
         ·
          replace c21 := Bool.eq_false_iff.mpr c21
          subst c21
          have H1 : (if (t209.length : Int) < 2 then (examboardlaw15_ReviewDuties.j3 kj16 a0 true t207 t208 t209 t212 t215) else (if (t212.length : Int) = 1 then (if 0 < (t212.length : Int) then (if (rd t212 0) = a0 then (examboardlaw15_ReviewDuties.j3 kj16 a0 true t207 t208 t209 t212 t215) else ((examboardlaw15_among.f kj16 t209 (rd t212 0)).bind fun t222 => (examboardlaw15_ReviewDuties.j3 kj16 a0 (decide (t222 > 0)) t207 t208 t209 t212 t215))) else (none)) else (examboardlaw15_ReviewDuties.j3 kj16 a0 true t207 t208 t209 t212 t215))) = some r := by rw [if_neg (show ¬ (false = true) by decide)] at H; exact H
          clear H
          have H := H1
          clear H1
          have HC22 := Aside0.mk H
          clear H
          go_upto_region 8 with (fail)
          repeat (go_quiet (fail); go_upto_region 8 with (fail))
          go_cut [63] (fun v63 wc => ∃ (kq : Nat) (x63_21 : Bool), v63 = .bool x63_21 ∧ Aside0 (examboardlaw15_ReviewDuties.j3 kq a0 x63_21 t207 t208 t209 t212 t215 = some r) ∧ Aside0 (kq ≤ kj16) ∧ Aside0 (Kd.R (Kd.int .i64) 3 wc w.heap.size (fun k_ => some k_ ≠ ((.slice Ao12 t212.length co12) : Value).ownBlock) (.slice Ao11 t209.length co11) t209) ∧ Aside0 (Kd.R (Kd.int .i64) 3 wc w.heap.size (fun k_ => some k_ ≠ ((.slice Ao11 t209.length co11) : Value).ownBlock) (.slice Ao12 t212.length co12) t212) ∧ Aside0 (Kd.R k34 34 wc w.heap.size (fun _ => True) (.slice Ao13 t215.length co13) t215) ∧ Aside0 (wc.heap[gb219]? = some (.cells #[.int .i64 t207, .int .i64 t208, (.slice Ao11 t209.length co11), (.slice Ao12 t212.length co12), (.slice Ao13 t215.length co13)] 25 (0, 0))) ∧ Aside0 (Below w.heap.size w wc))
          case first =>
           have H := HC22.out
           clear HC22
           by_cases c23 : (t209.length : Int) < 2
           ·
            rw [if_pos c23] at H
            have c23b0 : decide ((t209.length : Int) < 2) = true := decide_eq_true c23
            have c23b1 : decide (t209.length < 2) = true := decide_eq_true (by omega)
            clear c23
            (first | rw [c23b0] | (simp only [i64_w, i32_w]; rw [c23b0]) | skip)
            have H' := Aside0.mk H
            clear H
            have hcz24_0 : wc.cell? ⟨gb219, 0, none⟩ = some (.int .i64 t207) := (blk_cell BK219.out 0).trans rfl
            have hcz24_1 : wc.cell? ⟨gb219, 1, none⟩ = some (.int .i64 t208) := (blk_cell BK219.out 1).trans rfl
            have hcz24_2 : wc.cell? ⟨gb219, 2, none⟩ = some (.slice Ao11 t209.length co11) := (blk_cell BK219.out 2).trans rfl
            have hcz24_3 : wc.cell? ⟨gb219, 3, none⟩ = some (.slice Ao12 t212.length co12) := (blk_cell BK219.out 3).trans rfl
            have hcz24_4 : wc.cell? ⟨gb219, 4, none⟩ = some (.slice Ao13 t215.length co13) := (blk_cell BK219.out 4).trans rfl
            have hfz24_0 := blk_frozen BK219.out 0
            have hfz24_1 := blk_frozen BK219.out 1
            have hfz24_2 := blk_frozen BK219.out 2
            have hfz24_3 := blk_frozen BK219.out 3
            have hfz24_4 := blk_frozen BK219.out 4
            go_wp2
            repeat (go_quiet (fail); try go_wp2)
            go_meet
            case rel => exact ⟨_, (true), (by first | rfl | (simp; done) | (simp [*]; done)), H', ⟨by have := HJ2.out; have := HJ6.out; have := HJ16.out; first | omega | exact Nat.le_refl _⟩, ⟨by (with_reducible repeat (first | apply Kd.R_alloc | apply Kd.R_drewN | apply Kd.R_drew)); exact HO_220002.out⟩, ⟨by (with_reducible repeat (first | apply Kd.R_alloc | apply Kd.R_drewN | apply Kd.R_drew)); exact HO_220003.out⟩, ⟨by (with_reducible repeat (first | apply Kd.R_alloc | apply Kd.R_drewN | apply Kd.R_drew)); exact HO_220004.out⟩, ⟨by (with_reducible repeat (first | refine blk_drewN ?_ _ | refine blk_drew ?_ | refine blk_alloc ?_ _)); exact BK219.out⟩, ⟨by repeat (first | (with_reducible first | exact HB.out | apply below_alloc | apply pw_below_drewN | apply below_drew1 | refine below_set ?_ GE219.out) | exact HB.out)⟩⟩
           ·
            rw [if_neg c23] at H
            have c23b0 : decide ((t209.length : Int) < 2) = false := decide_eq_false c23
            have c23b1 : decide (t209.length < 2) = false := decide_eq_false (by omega)
            clear c23
            (first | rw [c23b0] | (simp only [i64_w, i32_w]; rw [c23b0]) | skip)
            by_cases c25 : (t212.length : Int) = 1
            ·
             rw [if_pos c25] at H
             have c25b0 : ((t212.length : Int) == 1) = true := beq_iff_eq.mpr c25
             have c25b1 : ((t212.length : Int) != 1) = false := bne_eq_false_iff_eq.mpr c25
             clear c25
             by_cases c26 : 0 < (t212.length : Int)
             ·
              rw [if_pos c26] at H
              have c26b0 : decide (0 < (t212.length : Int)) = true := decide_eq_true c26
              have c26b1 : decide (0 < t212.length) = true := decide_eq_true (by omega)
              clear c26
              by_cases c27 : (rd t212 0) = a0
              ·
               rw [if_pos c27] at H
               have c27b0 : ((rd t212 0) == a0) = true := beq_iff_eq.mpr c27
               have c27b1 : ((rd t212 0) != a0) = false := bne_eq_false_iff_eq.mpr c27
               clear c27
               have H' := Aside0.mk H
               clear H
               have hcz28_0 : wc.cell? ⟨gb219, 0, none⟩ = some (.int .i64 t207) := (blk_cell BK219.out 0).trans rfl
               have hcz28_1 : wc.cell? ⟨gb219, 1, none⟩ = some (.int .i64 t208) := (blk_cell BK219.out 1).trans rfl
               have hcz28_2 : wc.cell? ⟨gb219, 2, none⟩ = some (.slice Ao11 t209.length co11) := (blk_cell BK219.out 2).trans rfl
               have hcz28_3 : wc.cell? ⟨gb219, 3, none⟩ = some (.slice Ao12 t212.length co12) := (blk_cell BK219.out 3).trans rfl
               have hcz28_4 : wc.cell? ⟨gb219, 4, none⟩ = some (.slice Ao13 t215.length co13) := (blk_cell BK219.out 4).trans rfl
               have hfz28_0 := blk_frozen BK219.out 0
               have hfz28_1 := blk_frozen BK219.out 1
               have hfz28_2 := blk_frozen BK219.out 2
               have hfz28_3 := blk_frozen BK219.out 3
               have hfz28_4 := blk_frozen BK219.out 4
               have p220 : 0 ≤ (0 : Int) := (by omega)
               have q220 : 0 < (t212.length : Int) := of_decide_eq_true (by first | (with_reducible assumption) | assumption)
               obtain ⟨ad220, e220, hx220_0⟩ := Kd.at_int (Kd.R_reads' HO_220003.out).2.2 0 p220 q220
               cases e220
               have qi220 : (0 < t212.length) = True := eq_true (by omega)
               (try rw [show ((0 : Int)).toNat = 0 from rfl] at hx220_0)
               (try rw [Addr.add_zero'] at hx220_0)
               replace p220 := eq_true p220
               replace q220 := eq_true q220
               go_wp2
               repeat (go_quiet (fail); try go_wp2)
               go_meet
               case rel => exact ⟨_, (true), (by first | rfl | (simp; done) | (simp [*]; done)), H', ⟨by have := HJ2.out; have := HJ6.out; have := HJ16.out; first | omega | exact Nat.le_refl _⟩, ⟨by (with_reducible repeat (first | apply Kd.R_alloc | apply Kd.R_drewN | apply Kd.R_drew)); exact HO_220002.out⟩, ⟨by (with_reducible repeat (first | apply Kd.R_alloc | apply Kd.R_drewN | apply Kd.R_drew)); exact HO_220003.out⟩, ⟨by (with_reducible repeat (first | apply Kd.R_alloc | apply Kd.R_drewN | apply Kd.R_drew)); exact HO_220004.out⟩, ⟨by (with_reducible repeat (first | refine blk_drewN ?_ _ | refine blk_drew ?_ | refine blk_alloc ?_ _)); exact BK219.out⟩, ⟨by repeat (first | (with_reducible first | exact HB.out | apply below_alloc | apply pw_below_drewN | apply below_drew1 | refine below_set ?_ GE219.out) | exact HB.out)⟩⟩
              ·
               rw [if_neg c27] at H
               have c27b0 : ((rd t212 0) == a0) = false := beq_eq_false_iff_ne.mpr c27
               have c27b1 : ((rd t212 0) != a0) = true := bne_iff_ne.mpr c27
               replace H := Option.bind_eq_some_iff.mp H
               obtain ⟨t222, A290, H⟩ := H
               replace H : (examboardlaw15_ReviewDuties.j3 kj16 a0 (decide (t222 > 0)) t207 t208 t209 t212 t215) = some r := H
               have A29 := Aside0.mk A290
               clear A290
               have H' := Aside0.mk H
               clear H
               have hcz30_0 : wc.cell? ⟨gb219, 0, none⟩ = some (.int .i64 t207) := (blk_cell BK219.out 0).trans rfl
               have hcz30_1 : wc.cell? ⟨gb219, 1, none⟩ = some (.int .i64 t208) := (blk_cell BK219.out 1).trans rfl
               have hcz30_2 : wc.cell? ⟨gb219, 2, none⟩ = some (.slice Ao11 t209.length co11) := (blk_cell BK219.out 2).trans rfl
               have hcz30_3 : wc.cell? ⟨gb219, 3, none⟩ = some (.slice Ao12 t212.length co12) := (blk_cell BK219.out 3).trans rfl
               have hcz30_4 : wc.cell? ⟨gb219, 4, none⟩ = some (.slice Ao13 t215.length co13) := (blk_cell BK219.out 4).trans rfl
               have hfz30_0 := blk_frozen BK219.out 0
               have hfz30_1 := blk_frozen BK219.out 1
               have hfz30_2 := blk_frozen BK219.out 2
               have hfz30_3 := blk_frozen BK219.out 3
               have hfz30_4 := blk_frozen BK219.out 4
               have p220 : 0 ≤ (0 : Int) := (by omega)
               have q220 : 0 < (t212.length : Int) := of_decide_eq_true (by first | (with_reducible assumption) | assumption)
               obtain ⟨ad220, e220, hx220_0⟩ := Kd.at_int (Kd.R_reads' HO_220003.out).2.2 0 p220 q220
               cases e220
               have qi220 : (0 < t212.length) = True := eq_true (by omega)
               (try rw [show ((0 : Int)).toNat = 0 from rfl] at hx220_0)
               (try rw [Addr.add_zero'] at hx220_0)
               replace p220 := eq_true p220
               replace q220 := eq_true q220
               have p221 : 0 ≤ (0 : Int) := (by omega)
               have q221 : 0 < (t212.length : Int) := of_decide_eq_true (by first | (with_reducible assumption) | assumption)
               obtain ⟨ad221, e221, hx221_0⟩ := Kd.at_int (Kd.R_reads' HO_220003.out).2.2 0 p221 q221
               obtain rfl : ad220 = ad221 := (by injection e221)
               have qi221 : (0 < t212.length) = True := eq_true (by omega)
               (try rw [show ((0 : Int)).toNat = 0 from rfl] at hx221_0)
               (try rw [Addr.add_zero'] at hx221_0)
               replace p221 := eq_true p221
               replace q221 := eq_true q221
               go_wp2_with (first | (go_at_call 12; (with_reducible refine (examboardlaw15_among.calls kj16 _ _ t209 (rd t212 0) t222 _ ?side1 ?side2 A29.out).mono ?_); (case side1 => repeat (first | exact (Kd.R_reads' HO_220002.out).2.2 | (with_reducible refine Kd.C_alloc ?_ _) | (with_reducible refine Kd.C_drewN ?_ _) | (with_reducible refine Kd.C_drew ?_))); (case side2 => exact (Kd.R_reads' HO_220002.out).2.1); rintro e w' ⟨rfl, ⟨nd, rfl⟩⟩; (try first | exact ⟨rfl, _, World.drewN_drewN _ _ _⟩ | exact ⟨rfl, _, Eq.trans (World.drewN_drewN _ _ _) (congrArg (World.drewN _) (Nat.add_assoc _ _ _))⟩)))
               repeat (go_quiet (first | (go_at_call 12; (with_reducible refine (examboardlaw15_among.calls kj16 _ _ t209 (rd t212 0) t222 _ ?side1 ?side2 A29.out).mono ?_); (case side1 => repeat (first | exact (Kd.R_reads' HO_220002.out).2.2 | (with_reducible refine Kd.C_alloc ?_ _) | (with_reducible refine Kd.C_drewN ?_ _) | (with_reducible refine Kd.C_drew ?_))); (case side2 => exact (Kd.R_reads' HO_220002.out).2.1); rintro e w' ⟨rfl, ⟨nd, rfl⟩⟩; (try first | exact ⟨rfl, _, World.drewN_drewN _ _ _⟩ | exact ⟨rfl, _, Eq.trans (World.drewN_drewN _ _ _) (congrArg (World.drewN _) (Nat.add_assoc _ _ _))⟩))); try go_wp2_with (first | (go_at_call 12; (with_reducible refine (examboardlaw15_among.calls kj16 _ _ t209 (rd t212 0) t222 _ ?side1 ?side2 A29.out).mono ?_); (case side1 => repeat (first | exact (Kd.R_reads' HO_220002.out).2.2 | (with_reducible refine Kd.C_alloc ?_ _) | (with_reducible refine Kd.C_drewN ?_ _) | (with_reducible refine Kd.C_drew ?_))); (case side2 => exact (Kd.R_reads' HO_220002.out).2.1); rintro e w' ⟨rfl, ⟨nd, rfl⟩⟩; (try first | exact ⟨rfl, _, World.drewN_drewN _ _ _⟩ | exact ⟨rfl, _, Eq.trans (World.drewN_drewN _ _ _) (congrArg (World.drewN _) (Nat.add_assoc _ _ _))⟩))))
               go_meet
               case rel => exact ⟨_, (decide (t222 > 0)), (by first | rfl | (simp; done) | (simp [*]; done)), H', ⟨by have := HJ2.out; have := HJ6.out; have := HJ16.out; first | omega | exact Nat.le_refl _⟩, ⟨by (with_reducible repeat (first | apply Kd.R_alloc | apply Kd.R_drewN | apply Kd.R_drew)); exact HO_220002.out⟩, ⟨by (with_reducible repeat (first | apply Kd.R_alloc | apply Kd.R_drewN | apply Kd.R_drew)); exact HO_220003.out⟩, ⟨by (with_reducible repeat (first | apply Kd.R_alloc | apply Kd.R_drewN | apply Kd.R_drew)); exact HO_220004.out⟩, ⟨by (with_reducible repeat (first | refine blk_drewN ?_ _ | refine blk_drew ?_ | refine blk_alloc ?_ _)); exact BK219.out⟩, ⟨by repeat (first | (with_reducible first | exact HB.out | apply below_alloc | apply pw_below_drewN | apply below_drew1 | refine below_set ?_ GE219.out) | exact HB.out)⟩⟩
             ·
              rw [if_neg c26] at H
              exact absurd H (by simp)
            ·
             rw [if_neg c25] at H
             have c25b0 : ((t212.length : Int) == 1) = false := beq_eq_false_iff_ne.mpr c25
             have c25b1 : ((t212.length : Int) != 1) = true := bne_iff_ne.mpr c25
             have H' := Aside0.mk H
             clear H
             have hcz31_0 : wc.cell? ⟨gb219, 0, none⟩ = some (.int .i64 t207) := (blk_cell BK219.out 0).trans rfl
             have hcz31_1 : wc.cell? ⟨gb219, 1, none⟩ = some (.int .i64 t208) := (blk_cell BK219.out 1).trans rfl
             have hcz31_2 : wc.cell? ⟨gb219, 2, none⟩ = some (.slice Ao11 t209.length co11) := (blk_cell BK219.out 2).trans rfl
             have hcz31_3 : wc.cell? ⟨gb219, 3, none⟩ = some (.slice Ao12 t212.length co12) := (blk_cell BK219.out 3).trans rfl
             have hcz31_4 : wc.cell? ⟨gb219, 4, none⟩ = some (.slice Ao13 t215.length co13) := (blk_cell BK219.out 4).trans rfl
             have hfz31_0 := blk_frozen BK219.out 0
             have hfz31_1 := blk_frozen BK219.out 1
             have hfz31_2 := blk_frozen BK219.out 2
             have hfz31_3 := blk_frozen BK219.out 3
             have hfz31_4 := blk_frozen BK219.out 4
             go_wp2
             repeat (go_quiet (fail); try go_wp2)
             go_meet
             case rel => exact ⟨_, (true), (by first | rfl | (simp; done) | (simp [*]; done)), H', ⟨by have := HJ2.out; have := HJ6.out; have := HJ16.out; first | omega | exact Nat.le_refl _⟩, ⟨by (with_reducible repeat (first | apply Kd.R_alloc | apply Kd.R_drewN | apply Kd.R_drew)); exact HO_220002.out⟩, ⟨by (with_reducible repeat (first | apply Kd.R_alloc | apply Kd.R_drewN | apply Kd.R_drew)); exact HO_220003.out⟩, ⟨by (with_reducible repeat (first | apply Kd.R_alloc | apply Kd.R_drewN | apply Kd.R_drew)); exact HO_220004.out⟩, ⟨by (with_reducible repeat (first | refine blk_drewN ?_ _ | refine blk_drew ?_ | refine blk_alloc ?_ _)); exact BK219.out⟩, ⟨by repeat (first | (with_reducible first | exact HB.out | apply below_alloc | apply pw_below_drewN | apply below_drew1 | refine below_set ?_ GE219.out) | exact HB.out)⟩⟩
          case rest =>
           clear HC22
           (try clear c1); (try clear c2); (try clear p2); (try clear q2); (try clear hx2); (try clear qi2); (try clear c4); (try clear c4b0); (try clear c5); (try clear c14); (try clear c16); (try clear c18); (try clear c18b0); (try clear c18b1); (try clear c21); (try clear p22); (try clear q22); (try clear hx22); (try clear qi22); (try clear c23); (try clear c23b0); (try clear c23b1); (try clear c25); (try clear c25b0); (try clear c25b1); (try clear c26); (try clear c26b0); (try clear c26b1); (try clear c27); (try clear c27b0); (try clear c27b1); (try clear hcz10_0); (try clear hcz10_1); (try clear hcz10_2); (try clear hcz10_3); (try clear hcz10_4); (try clear hcz15_0); (try clear hcz15_1); (try clear hcz15_2); (try clear hcz15_3); (try clear hcz15_4); (try clear hcz19_0); (try clear hcz19_1); (try clear hcz19_2); (try clear hcz19_3); (try clear hcz19_4); (try clear hcz20_0); (try clear hcz20_1); (try clear hcz20_2); (try clear hcz20_3); (try clear hcz20_4); (try clear hcz24_0); (try clear hcz24_1); (try clear hcz24_2); (try clear hcz24_3); (try clear hcz24_4); (try clear hcz28_0); (try clear hcz28_1); (try clear hcz28_2); (try clear hcz28_3); (try clear hcz28_4); (try clear hcz30_0); (try clear hcz30_1); (try clear hcz30_2); (try clear hcz30_3); (try clear hcz30_4); (try clear hcz31_0); (try clear hcz31_1); (try clear hcz31_2); (try clear hcz31_3); (try clear hcz31_4); (try clear hfz10_0); (try clear hfz10_1); (try clear hfz10_2); (try clear hfz10_3); (try clear hfz10_4); (try clear hfz15_0); (try clear hfz15_1); (try clear hfz15_2); (try clear hfz15_3); (try clear hfz15_4); (try clear hfz19_0); (try clear hfz19_1); (try clear hfz19_2); (try clear hfz19_3); (try clear hfz19_4); (try clear hfz20_0); (try clear hfz20_1); (try clear hfz20_2); (try clear hfz20_3); (try clear hfz20_4); (try clear hfz24_0); (try clear hfz24_1); (try clear hfz24_2); (try clear hfz24_3); (try clear hfz24_4); (try clear hfz28_0); (try clear hfz28_1); (try clear hfz28_2); (try clear hfz28_3); (try clear hfz28_4); (try clear hfz30_0); (try clear hfz30_1); (try clear hfz30_2); (try clear hfz30_3); (try clear hfz30_4); (try clear hfz31_0); (try clear hfz31_1); (try clear hfz31_2); (try clear hfz31_3); (try clear hfz31_4); (try clear hx220_0); (try clear hx221_0); (try clear p2); (try clear p220); (try clear p221); (try clear q220); (try clear q221)
           obtain ⟨kq, x63_21, rfl, HA, HJ21, HO_220002, HO_220003, HO_220004, BK219, HB⟩ := hcut
           cases kq with
           | zero => exact absurd HA.out (by simp [examboardlaw15_ReviewDuties.j3])
           | succ kj21 =>
            have H := HA.out
            clear HA
            simp only [examboardlaw15_ReviewDuties.j3] at H
            by_cases c32 : x63_21 = true
            ·
             subst c32
             have H1 : (some false) = some r := by rw [if_pos rfl] at H; exact H
             clear H
             have H := H1
             clear H1
             obtain rfl := Option.some.inj H
             go_wp2
             repeat (go_quiet (fail); try go_wp2)
             go_ret
             exact ⟨by first | rfl | (simp [errW_none, errW_some] <;> rfl) | (simp [*, errW_none, errW_some] <;> rfl), by repeat (first | (with_reducible first | exact HB.out | apply below_alloc | apply pw_below_drewN | apply below_drew1 | refine below_set ?_ GE219.out) | exact HB.out)⟩
            ·
             replace c32 := Bool.eq_false_iff.mpr c32
             subst c32
             have H1 : (examboardlaw15_ReviewDuties.l0 kj21 a0 0 t207 t208 t209 t212 t215) = some r := by rw [if_neg (show ¬ (false = true) by decide)] at H; exact H
             clear H
             have H := H1
             clear H1
             have H' := Aside0.mk H
             clear H
             go_wp2
             repeat (go_quiet (fail); try go_wp2)
             go_loopg [7] kj21 (fun kq v7 w' => ∃ (x7_5 : Int), v7 = .int .i64 x7_5 ∧ Aside0 (examboardlaw15_ReviewDuties.l0 kq a0 x7_5 t207 t208 t209 t212 t215 = some r) ∧ Aside0 (kq ≤ kj21) ∧ Aside0 (Kd.R (Kd.int .i64) 3 w' w.heap.size (fun k_ => some k_ ≠ ((.slice Ao12 t212.length co12) : Value).ownBlock) (.slice Ao11 t209.length co11) t209) ∧ Aside0 (Kd.R (Kd.int .i64) 3 w' w.heap.size (fun k_ => some k_ ≠ ((.slice Ao11 t209.length co11) : Value).ownBlock) (.slice Ao12 t212.length co12) t212) ∧ Aside0 (Kd.R k34 34 w' w.heap.size (fun _ => True) (.slice Ao13 t215.length co13) t215) ∧ Aside0 (w'.heap[gb219]? = some (.cells #[.int .i64 t207, .int .i64 t208, (.slice Ao11 t209.length co11), (.slice Ao12 t212.length co12), (.slice Ao13 t215.length co13)] 25 (0, 0))) ∧ Aside0 (Below w.heap.size w w'))
             case atStart => exact ⟨(0), (by first | rfl | (simp; done) | (simp [*]; done)), H', ⟨Nat.le_refl _⟩, ⟨by (with_reducible repeat (first | apply Kd.R_alloc | apply Kd.R_drewN | apply Kd.R_drew)); exact HO_220002.out⟩, ⟨by (with_reducible repeat (first | apply Kd.R_alloc | apply Kd.R_drewN | apply Kd.R_drew)); exact HO_220003.out⟩, ⟨by (with_reducible repeat (first | apply Kd.R_alloc | apply Kd.R_drewN | apply Kd.R_drew)); exact HO_220004.out⟩, ⟨by (with_reducible repeat (first | refine blk_drewN ?_ _ | refine blk_drew ?_ | refine blk_alloc ?_ _)); exact BK219.out⟩, ⟨by repeat (first | (with_reducible first | exact HB.out | apply below_alloc | apply pw_below_drewN | apply below_drew1 | refine below_set ?_ GE219.out) | exact HB.out)⟩⟩
             case round =>
              clear H'
              (try clear c1); (try clear c2); (try clear p2); (try clear q2); (try clear hx2); (try clear qi2); (try clear c3); (try clear c4); (try clear c4b0); (try clear c5); (try clear c14); (try clear c16); (try clear c18); (try clear c18b0); (try clear c18b1); (try clear c21); (try clear p22); (try clear q22); (try clear hx22); (try clear qi22); (try clear c23); (try clear c23b0); (try clear c23b1); (try clear c25); (try clear c25b0); (try clear c25b1); (try clear c26); (try clear c26b0); (try clear c26b1); (try clear c27); (try clear c27b0); (try clear c27b1); (try clear c32); (try clear hcz10_0); (try clear hcz10_1); (try clear hcz10_2); (try clear hcz10_3); (try clear hcz10_4); (try clear hcz15_0); (try clear hcz15_1); (try clear hcz15_2); (try clear hcz15_3); (try clear hcz15_4); (try clear hcz19_0); (try clear hcz19_1); (try clear hcz19_2); (try clear hcz19_3); (try clear hcz19_4); (try clear hcz20_0); (try clear hcz20_1); (try clear hcz20_2); (try clear hcz20_3); (try clear hcz20_4); (try clear hcz24_0); (try clear hcz24_1); (try clear hcz24_2); (try clear hcz24_3); (try clear hcz24_4); (try clear hcz28_0); (try clear hcz28_1); (try clear hcz28_2); (try clear hcz28_3); (try clear hcz28_4); (try clear hcz30_0); (try clear hcz30_1); (try clear hcz30_2); (try clear hcz30_3); (try clear hcz30_4); (try clear hcz31_0); (try clear hcz31_1); (try clear hcz31_2); (try clear hcz31_3); (try clear hcz31_4); (try clear hfz10_0); (try clear hfz10_1); (try clear hfz10_2); (try clear hfz10_3); (try clear hfz10_4); (try clear hfz15_0); (try clear hfz15_1); (try clear hfz15_2); (try clear hfz15_3); (try clear hfz15_4); (try clear hfz19_0); (try clear hfz19_1); (try clear hfz19_2); (try clear hfz19_3); (try clear hfz19_4); (try clear hfz20_0); (try clear hfz20_1); (try clear hfz20_2); (try clear hfz20_3); (try clear hfz20_4); (try clear hfz24_0); (try clear hfz24_1); (try clear hfz24_2); (try clear hfz24_3); (try clear hfz24_4); (try clear hfz28_0); (try clear hfz28_1); (try clear hfz28_2); (try clear hfz28_3); (try clear hfz28_4); (try clear hfz30_0); (try clear hfz30_1); (try clear hfz30_2); (try clear hfz30_3); (try clear hfz30_4); (try clear hfz31_0); (try clear hfz31_1); (try clear hfz31_2); (try clear hfz31_3); (try clear hfz31_4); (try clear hx220_0); (try clear hx221_0); (try clear p2); (try clear p22); (try clear p220); (try clear p221); (try clear q2); (try clear q22); (try clear q220); (try clear q221)
              obtain ⟨x7_5, rfl, HA, HK5, HO_220002, HO_220003, HO_220004, BK219, HB⟩ := hrel
              cases gk with
              | zero => exact absurd HA.out (by simp [examboardlaw15_ReviewDuties.l0])
              | succ k5 =>
               have H := HA.out
               clear HA
               simp only [examboardlaw15_ReviewDuties.l0] at H
               by_cases c33 : x7_5 < (t209.length : Int)
               ·
                rw [if_pos c33] at H
                have c33b0 : decide (x7_5 < (t209.length : Int)) = true := decide_eq_true c33
                clear c33
                by_cases c34 : 0 ≤ x7_5
                ·
                 rw [if_pos c34] at H
                 have c34b0 : decide (0 ≤ x7_5) = true := decide_eq_true c34
                 clear c34
                 by_cases c35 : (rd t209 x7_5) = a0
                 ·
                  rw [if_pos c35] at H
                  have c35b0 : ((rd t209 x7_5) == a0) = true := beq_iff_eq.mpr c35
                  have c35b1 : ((rd t209 x7_5) != a0) = false := bne_eq_false_iff_eq.mpr c35
                  clear c35
                  obtain rfl := Option.some.inj H
                  have hcz36_0 : wr.cell? ⟨gb219, 0, none⟩ = some (.int .i64 t207) := (blk_cell BK219.out 0).trans rfl
                  have hcz36_1 : wr.cell? ⟨gb219, 1, none⟩ = some (.int .i64 t208) := (blk_cell BK219.out 1).trans rfl
                  have hcz36_2 : wr.cell? ⟨gb219, 2, none⟩ = some (.slice Ao11 t209.length co11) := (blk_cell BK219.out 2).trans rfl
                  have hcz36_3 : wr.cell? ⟨gb219, 3, none⟩ = some (.slice Ao12 t212.length co12) := (blk_cell BK219.out 3).trans rfl
                  have hcz36_4 : wr.cell? ⟨gb219, 4, none⟩ = some (.slice Ao13 t215.length co13) := (blk_cell BK219.out 4).trans rfl
                  have hfz36_0 := blk_frozen BK219.out 0
                  have hfz36_1 := blk_frozen BK219.out 1
                  have hfz36_2 := blk_frozen BK219.out 2
                  have hfz36_3 := blk_frozen BK219.out 3
                  have hfz36_4 := blk_frozen BK219.out 4
                  have p223 : 0 ≤ (x7_5 : Int) := of_decide_eq_true (by first | (with_reducible assumption) | assumption)
                  have q223 : x7_5 < (t209.length : Int) := of_decide_eq_true (by first | (with_reducible assumption) | assumption)
                  obtain ⟨ad223, e223, hx223_0⟩ := Kd.at_int (Kd.R_reads' HO_220002.out).2.2 x7_5 p223 q223
                  cases e223
                  replace p223 := eq_true p223
                  replace q223 := eq_true q223
                  go_wp2
                  repeat (go_quiet (fail); try go_wp2)
                  go_ret
                  exact ⟨by first | rfl | (simp [errW_none, errW_some] <;> rfl) | (simp [*, errW_none, errW_some] <;> rfl), by repeat (first | (with_reducible first | exact HB.out | apply below_alloc | apply pw_below_drewN | apply below_drew1 | refine below_set ?_ GE219.out) | exact HB.out)⟩
                 ·
                  rw [if_neg c35] at H
                  have c35b0 : ((rd t209 x7_5) == a0) = false := beq_eq_false_iff_ne.mpr c35
                  have c35b1 : ((rd t209 x7_5) != a0) = true := bne_iff_ne.mpr c35
                  replace H := Option.bind_eq_some_iff.mp H
                  obtain ⟨t225, A370, H⟩ := H
                  replace H : (if t225 = 1 then (examboardlaw15_ReviewDuties.l0 k5 a0 (wrap64 (x7_5 + 1)) t207 t208 t209 t212 t215) else (some false)) = some r := H
                  have A37 := Aside0.mk A370
                  clear A370
                  by_cases c38 : t225 = 1
                  ·
                   rw [if_pos c38] at H
                   have c38b0 : (t225 == 1) = true := beq_iff_eq.mpr c38
                   have c38b1 : (t225 != 1) = false := bne_eq_false_iff_eq.mpr c38
                   clear c38
                   have H' := Aside0.mk H
                   clear H
                   have hcz39_0 : wr.cell? ⟨gb219, 0, none⟩ = some (.int .i64 t207) := (blk_cell BK219.out 0).trans rfl
                   have hcz39_1 : wr.cell? ⟨gb219, 1, none⟩ = some (.int .i64 t208) := (blk_cell BK219.out 1).trans rfl
                   have hcz39_2 : wr.cell? ⟨gb219, 2, none⟩ = some (.slice Ao11 t209.length co11) := (blk_cell BK219.out 2).trans rfl
                   have hcz39_3 : wr.cell? ⟨gb219, 3, none⟩ = some (.slice Ao12 t212.length co12) := (blk_cell BK219.out 3).trans rfl
                   have hcz39_4 : wr.cell? ⟨gb219, 4, none⟩ = some (.slice Ao13 t215.length co13) := (blk_cell BK219.out 4).trans rfl
                   have hfz39_0 := blk_frozen BK219.out 0
                   have hfz39_1 := blk_frozen BK219.out 1
                   have hfz39_2 := blk_frozen BK219.out 2
                   have hfz39_3 := blk_frozen BK219.out 3
                   have hfz39_4 := blk_frozen BK219.out 4
                   have p223 : 0 ≤ (x7_5 : Int) := of_decide_eq_true (by first | (with_reducible assumption) | assumption)
                   have q223 : x7_5 < (t209.length : Int) := of_decide_eq_true (by first | (with_reducible assumption) | assumption)
                   obtain ⟨ad223, e223, hx223_0⟩ := Kd.at_int (Kd.R_reads' HO_220002.out).2.2 x7_5 p223 q223
                   cases e223
                   replace p223 := eq_true p223
                   replace q223 := eq_true q223
                   have p224 : 0 ≤ (x7_5 : Int) := of_decide_eq_true (by first | (with_reducible assumption) | assumption)
                   have q224 : x7_5 < (t209.length : Int) := of_decide_eq_true (by first | (with_reducible assumption) | assumption)
                   obtain ⟨ad224, e224, hx224_0⟩ := Kd.at_int (Kd.R_reads' HO_220002.out).2.2 x7_5 p224 q224
                   obtain rfl : ad223 = ad224 := (by injection e224)
                   replace p224 := eq_true p224
                   replace q224 := eq_true q224
                   go_wp2_with (first | (go_at_call 12; (with_reducible refine (examboardlaw15_among.calls k5 _ _ t209 (rd t209 x7_5) t225 _ ?side1 ?side2 A37.out).mono ?_); (case side1 => repeat (first | exact (Kd.R_reads' HO_220002.out).2.2 | (with_reducible refine Kd.C_alloc ?_ _) | (with_reducible refine Kd.C_drewN ?_ _) | (with_reducible refine Kd.C_drew ?_))); (case side2 => exact (Kd.R_reads' HO_220002.out).2.1); rintro e w' ⟨rfl, ⟨nd, rfl⟩⟩; (try first | exact ⟨rfl, _, World.drewN_drewN _ _ _⟩ | exact ⟨rfl, _, Eq.trans (World.drewN_drewN _ _ _) (congrArg (World.drewN _) (Nat.add_assoc _ _ _))⟩)))
                   repeat (go_quiet (first | (go_at_call 12; (with_reducible refine (examboardlaw15_among.calls k5 _ _ t209 (rd t209 x7_5) t225 _ ?side1 ?side2 A37.out).mono ?_); (case side1 => repeat (first | exact (Kd.R_reads' HO_220002.out).2.2 | (with_reducible refine Kd.C_alloc ?_ _) | (with_reducible refine Kd.C_drewN ?_ _) | (with_reducible refine Kd.C_drew ?_))); (case side2 => exact (Kd.R_reads' HO_220002.out).2.1); rintro e w' ⟨rfl, ⟨nd, rfl⟩⟩; (try first | exact ⟨rfl, _, World.drewN_drewN _ _ _⟩ | exact ⟨rfl, _, Eq.trans (World.drewN_drewN _ _ _) (congrArg (World.drewN _) (Nat.add_assoc _ _ _))⟩))); try go_wp2_with (first | (go_at_call 12; (with_reducible refine (examboardlaw15_among.calls k5 _ _ t209 (rd t209 x7_5) t225 _ ?side1 ?side2 A37.out).mono ?_); (case side1 => repeat (first | exact (Kd.R_reads' HO_220002.out).2.2 | (with_reducible refine Kd.C_alloc ?_ _) | (with_reducible refine Kd.C_drewN ?_ _) | (with_reducible refine Kd.C_drew ?_))); (case side2 => exact (Kd.R_reads' HO_220002.out).2.1); rintro e w' ⟨rfl, ⟨nd, rfl⟩⟩; (try first | exact ⟨rfl, _, World.drewN_drewN _ _ _⟩ | exact ⟨rfl, _, Eq.trans (World.drewN_drewN _ _ _) (congrArg (World.drewN _) (Nat.add_assoc _ _ _))⟩))))
                   go_roundg k5
                   case measure => have := HJ2.out; have := HJ6.out; have := HJ16.out; have := HJ21.out; have := HK5.out; omega
                   case rel => exact ⟨(wrap64 (x7_5 + 1)), (by first | rfl | (simp; done) | (simp [*]; done)), H', ⟨by have := HJ2.out; have := HJ6.out; have := HJ16.out; have := HJ21.out; have := HK5.out; omega⟩, ⟨by (with_reducible repeat (first | apply Kd.R_alloc | apply Kd.R_drewN | apply Kd.R_drew)); exact HO_220002.out⟩, ⟨by (with_reducible repeat (first | apply Kd.R_alloc | apply Kd.R_drewN | apply Kd.R_drew)); exact HO_220003.out⟩, ⟨by (with_reducible repeat (first | apply Kd.R_alloc | apply Kd.R_drewN | apply Kd.R_drew)); exact HO_220004.out⟩, ⟨by (with_reducible repeat (first | refine blk_drewN ?_ _ | refine blk_drew ?_ | refine blk_alloc ?_ _)); exact BK219.out⟩, ⟨by repeat (first | (with_reducible first | exact HB.out | apply below_alloc | apply pw_below_drewN | apply below_drew1 | refine below_set ?_ GE219.out) | exact HB.out)⟩⟩
                  ·
                   rw [if_neg c38] at H
                   have c38b0 : (t225 == 1) = false := beq_eq_false_iff_ne.mpr c38
                   have c38b1 : (t225 != 1) = true := bne_iff_ne.mpr c38
                   obtain rfl := Option.some.inj H
                   have hcz40_0 : wr.cell? ⟨gb219, 0, none⟩ = some (.int .i64 t207) := (blk_cell BK219.out 0).trans rfl
                   have hcz40_1 : wr.cell? ⟨gb219, 1, none⟩ = some (.int .i64 t208) := (blk_cell BK219.out 1).trans rfl
                   have hcz40_2 : wr.cell? ⟨gb219, 2, none⟩ = some (.slice Ao11 t209.length co11) := (blk_cell BK219.out 2).trans rfl
                   have hcz40_3 : wr.cell? ⟨gb219, 3, none⟩ = some (.slice Ao12 t212.length co12) := (blk_cell BK219.out 3).trans rfl
                   have hcz40_4 : wr.cell? ⟨gb219, 4, none⟩ = some (.slice Ao13 t215.length co13) := (blk_cell BK219.out 4).trans rfl
                   have hfz40_0 := blk_frozen BK219.out 0
                   have hfz40_1 := blk_frozen BK219.out 1
                   have hfz40_2 := blk_frozen BK219.out 2
                   have hfz40_3 := blk_frozen BK219.out 3
                   have hfz40_4 := blk_frozen BK219.out 4
                   have p223 : 0 ≤ (x7_5 : Int) := of_decide_eq_true (by first | (with_reducible assumption) | assumption)
                   have q223 : x7_5 < (t209.length : Int) := of_decide_eq_true (by first | (with_reducible assumption) | assumption)
                   obtain ⟨ad223, e223, hx223_0⟩ := Kd.at_int (Kd.R_reads' HO_220002.out).2.2 x7_5 p223 q223
                   cases e223
                   replace p223 := eq_true p223
                   replace q223 := eq_true q223
                   have p224 : 0 ≤ (x7_5 : Int) := of_decide_eq_true (by first | (with_reducible assumption) | assumption)
                   have q224 : x7_5 < (t209.length : Int) := of_decide_eq_true (by first | (with_reducible assumption) | assumption)
                   obtain ⟨ad224, e224, hx224_0⟩ := Kd.at_int (Kd.R_reads' HO_220002.out).2.2 x7_5 p224 q224
                   obtain rfl : ad223 = ad224 := (by injection e224)
                   replace p224 := eq_true p224
                   replace q224 := eq_true q224
                   go_wp2_with (first | (go_at_call 12; (with_reducible refine (examboardlaw15_among.calls k5 _ _ t209 (rd t209 x7_5) t225 _ ?side1 ?side2 A37.out).mono ?_); (case side1 => repeat (first | exact (Kd.R_reads' HO_220002.out).2.2 | (with_reducible refine Kd.C_alloc ?_ _) | (with_reducible refine Kd.C_drewN ?_ _) | (with_reducible refine Kd.C_drew ?_))); (case side2 => exact (Kd.R_reads' HO_220002.out).2.1); rintro e w' ⟨rfl, ⟨nd, rfl⟩⟩; (try first | exact ⟨rfl, _, World.drewN_drewN _ _ _⟩ | exact ⟨rfl, _, Eq.trans (World.drewN_drewN _ _ _) (congrArg (World.drewN _) (Nat.add_assoc _ _ _))⟩)))
                   repeat (go_quiet (first | (go_at_call 12; (with_reducible refine (examboardlaw15_among.calls k5 _ _ t209 (rd t209 x7_5) t225 _ ?side1 ?side2 A37.out).mono ?_); (case side1 => repeat (first | exact (Kd.R_reads' HO_220002.out).2.2 | (with_reducible refine Kd.C_alloc ?_ _) | (with_reducible refine Kd.C_drewN ?_ _) | (with_reducible refine Kd.C_drew ?_))); (case side2 => exact (Kd.R_reads' HO_220002.out).2.1); rintro e w' ⟨rfl, ⟨nd, rfl⟩⟩; (try first | exact ⟨rfl, _, World.drewN_drewN _ _ _⟩ | exact ⟨rfl, _, Eq.trans (World.drewN_drewN _ _ _) (congrArg (World.drewN _) (Nat.add_assoc _ _ _))⟩))); try go_wp2_with (first | (go_at_call 12; (with_reducible refine (examboardlaw15_among.calls k5 _ _ t209 (rd t209 x7_5) t225 _ ?side1 ?side2 A37.out).mono ?_); (case side1 => repeat (first | exact (Kd.R_reads' HO_220002.out).2.2 | (with_reducible refine Kd.C_alloc ?_ _) | (with_reducible refine Kd.C_drewN ?_ _) | (with_reducible refine Kd.C_drew ?_))); (case side2 => exact (Kd.R_reads' HO_220002.out).2.1); rintro e w' ⟨rfl, ⟨nd, rfl⟩⟩; (try first | exact ⟨rfl, _, World.drewN_drewN _ _ _⟩ | exact ⟨rfl, _, Eq.trans (World.drewN_drewN _ _ _) (congrArg (World.drewN _) (Nat.add_assoc _ _ _))⟩))))
                   go_ret
                   exact ⟨by first | rfl | (simp [errW_none, errW_some] <;> rfl) | (simp [*, errW_none, errW_some] <;> rfl), by repeat (first | (with_reducible first | exact HB.out | apply below_alloc | apply pw_below_drewN | apply below_drew1 | refine below_set ?_ GE219.out) | exact HB.out)⟩
                ·
                 rw [if_neg c34] at H
                 exact absurd H (by simp)
               ·
                rw [if_neg c33] at H
                have c33b0 : decide (x7_5 < (t209.length : Int)) = false := decide_eq_false c33
                clear c33
                obtain rfl := Option.some.inj H
                have hcz41_0 : wr.cell? ⟨gb219, 0, none⟩ = some (.int .i64 t207) := (blk_cell BK219.out 0).trans rfl
                have hcz41_1 : wr.cell? ⟨gb219, 1, none⟩ = some (.int .i64 t208) := (blk_cell BK219.out 1).trans rfl
                have hcz41_2 : wr.cell? ⟨gb219, 2, none⟩ = some (.slice Ao11 t209.length co11) := (blk_cell BK219.out 2).trans rfl
                have hcz41_3 : wr.cell? ⟨gb219, 3, none⟩ = some (.slice Ao12 t212.length co12) := (blk_cell BK219.out 3).trans rfl
                have hcz41_4 : wr.cell? ⟨gb219, 4, none⟩ = some (.slice Ao13 t215.length co13) := (blk_cell BK219.out 4).trans rfl
                have hfz41_0 := blk_frozen BK219.out 0
                have hfz41_1 := blk_frozen BK219.out 1
                have hfz41_2 := blk_frozen BK219.out 2
                have hfz41_3 := blk_frozen BK219.out 3
                have hfz41_4 := blk_frozen BK219.out 4
                go_wp2
                repeat (go_quiet (fail); try go_wp2)
                go_ret
                exact ⟨by first | rfl | (simp [errW_none, errW_some] <;> rfl) | (simp [*, errW_none, errW_some] <;> rfl), by repeat (first | (with_reducible first | exact HB.out | apply below_alloc | apply pw_below_drewN | apply below_drew1 | refine below_set ?_ GE219.out) | exact HB.out)⟩

end Go.Proofs.Ytokmnbdnligcaaa.All
