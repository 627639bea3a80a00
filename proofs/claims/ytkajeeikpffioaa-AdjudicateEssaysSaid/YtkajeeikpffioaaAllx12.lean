-- Written by myprint.py for this claim: functions of the program as Lean functions, with the proofs that the calls come to them.
import Derived.Test.YtkajeeikpffioaaAllx0
import Derived.Test.YtkajeeikpffioaaAllx11
namespace Go.Proofs.Ytkajeeikpffioaa.All
open Go.RowKit Go.Proofs.YtkajeeikpffioaaW.PrintWords Go.Proofs.YtkajeeikpffioaaW.PrintLast Go.Proofs.YtkajeeikpffioaaW.PrintMore
attribute [local go_sem] max2_int min2_int max_two min_two max_three min_three max_four min_four   -- for this text's walks alone
set_option linter.unusedVariables false
set_option linter.unusedSimpArgs false

/-! ### examboardref41_Valid: function 46 -/
mutual
def examboardref41_Valid.j0 : Nat → Bool → Int → List (S59) → Option (Int)
 | 0, _, _, _ => none
 | k + 1, x13, x322000, x322001 => if x13 = true then (some 3) else (if (x322001.length : Int) > 6 then (some 5) else (if (x322001.length : Int) = 0 then (some 20) else (examboardref41_Valid.l0 k 0 x322000 x322001)))
def examboardref41_Valid.l0 : Nat → Int → Int → List (S59) → Option (Int)
 | 0, _, _, _ => none
 | k + 1, x3, x322000, x322001 => if x3 < (x322001.length : Int) then (if 0 ≤ x3 then ((examboardref41_letters.f k ((rd_T59 x322001 x3).f0)).bind fun t324 => (if t324 = true then (examboardref41_Valid.l1 k x3 0 x322000 x322001 ((rd_T59 x322001 x3).f0) ((rd_T59 x322001 x3).f1) ((rd_T59 x322001 x3).f2)) else (some 2))) else (none)) else (some 0)
def examboardref41_Valid.l1 : Nat → Int → Int → Int → List (S59) → ByteArray → Int → Int → Option (Int)
 | 0, _, _, _, _, _, _, _ => none
 | k + 1, x3, x5, x322000, x322001, x324000, x324001, x324002 => if x5 < x3 then (if 0 ≤ x5 then (if x5 < (x322001.length : Int) then (if ((rd_T59 x322001 x5).f0).toList = x324000.toList then (some 7) else (examboardref41_Valid.l1 k x3 (wrap64 (x5 + 1)) x322000 x322001 x324000 x324001 x324002)) else (none)) else (none)) else (if x324001 < 1 then (some 3) else (if x324001 > 10 then (some 3) else (if x324002 < 1 then (some 3) else (if x324002 > 10 then (some 3) else (examboardref41_Valid.l0 k (wrap64 (x3 + 1)) x322000 x322001)))))
end
def examboardref41_Valid.f (k : Nat) (a0_0 : Int) (l0_1 : List (S59)) : Option (Int) := if a0_0 < 1 then (examboardref41_Valid.j0 k true a0_0 l0_1) else (examboardref41_Valid.j0 k (decide (a0_0 > 9999999)) a0_0 l0_1)
theorem examboardref41_Valid.mono_l : ∀ k, (∀ y0 y1 y2, LeO (examboardref41_Valid.j0 k y0 y1 y2) (examboardref41_Valid.j0 (k + 1) y0 y1 y2)) ∧ (∀ y0 y1 y2, LeO (examboardref41_Valid.l0 k y0 y1 y2) (examboardref41_Valid.l0 (k + 1) y0 y1 y2)) ∧ (∀ y0 y1 y2 y3 y4 y5 y6, LeO (examboardref41_Valid.l1 k y0 y1 y2 y3 y4 y5 y6) (examboardref41_Valid.l1 (k + 1) y0 y1 y2 y3 y4 y5 y6))
 | 0 => ⟨fun _ _ _ r h => by simp [examboardref41_Valid.j0] at h, fun _ _ _ r h => by simp [examboardref41_Valid.l0] at h, fun _ _ _ _ _ _ _ r h => by simp [examboardref41_Valid.l1] at h⟩
 | k + 1 => by
  obtain ⟨ih0, ih1, ih2⟩ := examboardref41_Valid.mono_l k
  refine ⟨?_, ?_, ?_⟩
  ·
   intro y0 y1 y2
   unfold examboardref41_Valid.j0
   repeat' first
   | (with_reducible exact ih0 _ _ _)
   | (with_reducible exact ih1 _ _ _)
   | (with_reducible exact ih2 _ _ _ _ _ _ _)
   | (with_reducible exact examboardref41_letters.mono _ _)
   | (with_reducible exact LeO.refl _)
   | (with_reducible exact LeO.none _)
   | (with_reducible refine LeO.ite ?_ ?_)
   | (with_reducible refine LeO.bind ?_ (fun _ => ?_))
   | exact ih0 _ _ _
   | exact ih1 _ _ _
   | exact ih2 _ _ _ _ _ _ _
   | exact examboardref41_letters.mono _ _
   | exact LeO.none _
   | refine LeO.ite ?_ ?_
   | refine LeO.bind ?_ (fun _ => ?_)
  ·
   intro y0 y1 y2
   unfold examboardref41_Valid.l0
   repeat' first
   | (with_reducible exact ih0 _ _ _)
   | (with_reducible exact ih1 _ _ _)
   | (with_reducible exact ih2 _ _ _ _ _ _ _)
   | (with_reducible exact examboardref41_letters.mono _ _)
   | (with_reducible exact LeO.refl _)
   | (with_reducible exact LeO.none _)
   | (with_reducible refine LeO.ite ?_ ?_)
   | (with_reducible refine LeO.bind ?_ (fun _ => ?_))
   | exact ih0 _ _ _
   | exact ih1 _ _ _
   | exact ih2 _ _ _ _ _ _ _
   | exact examboardref41_letters.mono _ _
   | exact LeO.none _
   | refine LeO.ite ?_ ?_
   | refine LeO.bind ?_ (fun _ => ?_)
  ·
   intro y0 y1 y2 y3 y4 y5 y6
   unfold examboardref41_Valid.l1
   repeat' first
   | (with_reducible exact ih0 _ _ _)
   | (with_reducible exact ih1 _ _ _)
   | (with_reducible exact ih2 _ _ _ _ _ _ _)
   | (with_reducible exact examboardref41_letters.mono _ _)
   | (with_reducible exact LeO.refl _)
   | (with_reducible exact LeO.none _)
   | (with_reducible refine LeO.ite ?_ ?_)
   | (with_reducible refine LeO.bind ?_ (fun _ => ?_))
   | exact ih0 _ _ _
   | exact ih1 _ _ _
   | exact ih2 _ _ _ _ _ _ _
   | exact examboardref41_letters.mono _ _
   | exact LeO.none _
   | refine LeO.ite ?_ ?_
   | refine LeO.bind ?_ (fun _ => ?_)
theorem examboardref41_Valid.mono : ∀ a0 a1 k, LeO (examboardref41_Valid.f k a0 a1) (examboardref41_Valid.f (k + 1) a0 a1) := by
 intro a0 a1 k
 obtain ⟨ih0, ih1, ih2⟩ := examboardref41_Valid.mono_l k
 unfold examboardref41_Valid.f
 repeat' first
   | (with_reducible exact ih0 _ _ _)
   | (with_reducible exact ih1 _ _ _)
   | (with_reducible exact ih2 _ _ _ _ _ _ _)
   | (with_reducible exact examboardref41_letters.mono _ _)
   | (with_reducible exact LeO.refl _)
   | (with_reducible exact LeO.none _)
   | (with_reducible refine LeO.ite ?_ ?_)
   | (with_reducible refine LeO.bind ?_ (fun _ => ?_))
   | exact ih0 _ _ _
   | exact ih1 _ _ _
   | exact ih2 _ _ _ _ _ _ _
   | exact examboardref41_letters.mono _ _
   | exact LeO.none _
   | refine LeO.ite ?_ ?_
   | refine LeO.bind ?_ (fun _ => ?_)
set_option maxHeartbeats 8000000 in
set_option maxRecDepth 100000 in
theorem examboardref41_Valid.calls (k : Nat) (a0_0 : Int) (A0_1 : Option Addr) (c0_1 : Nat) (l0_1 : List (S59)) (r : Int) (w : World) (hr0_1 : Kd.C k59 w A0_1 l0_1.length l0_1) (hc0_1 : l0_1.length ≤ c0_1) (h : examboardref41_Valid.f k a0_0 l0_1 = some r) :
  Calls Try.prog 46 #[.agg #[.int .i64 a0_0, .slice A0_1 l0_1.length c0_1]] w fun e w' => e = .returned (.int .i64 r) ∧ Below w.heap.size w w' := by
 have hu26 := Try.underlying26
 have hu59 := Try.underlying59
 have HR0_1 := Aside0.mk hr0_1
 have HC0_1 := Aside0.mk hc0_1
 clear hr0_1 hc0_1
 have HB := Aside0.mk (Below.refl w.heap.size w)
 have H : (if a0_0 < 1 then (examboardref41_Valid.j0 k true a0_0 l0_1) else (examboardref41_Valid.j0 k (decide (a0_0 > 9999999)) a0_0 l0_1)) = some r := h
 clear h
 have HC2 := Aside0.mk H
 clear H
 go_enter Try.func46, Try.ntmps46
 go_upto_region 1 with (first | ((with_reducible refine gate_dst (N := 1) rfl ?_); refine box_event ?hg (N := 1) ?hd (cs := #[.int .i64 a0_0, .slice A0_1 l0_1.length c0_1]) (t := 26) ?hr ?_; (case hd => rfl); (case hg => rfl); (case hr => first | (go_simp; done) | (go_simp; rfl)); intro gb321 hg w3 hbox hb; have n0_ := Aside0.mk (below_step (Bw HB.out) hb); have n1_ := Aside0.mk (hbox); have n2_ := Aside0.mk (Gs hg (Bw HB.out)); have n3_ := Aside0.mk (Gs hg (Bw HB.out)); clear HB; have HB := n0_; have BK321 := n1_; have GW321 := n2_; have GE321 := n3_; clear n0_ n1_ n2_ n3_; clear hb hbox hg))
 repeat (go_quiet (first | ((with_reducible refine gate_dst (N := 1) rfl ?_); refine box_event ?hg (N := 1) ?hd (cs := #[.int .i64 a0_0, .slice A0_1 l0_1.length c0_1]) (t := 26) ?hr ?_; (case hd => rfl); (case hg => rfl); (case hr => first | (go_simp; done) | (go_simp; rfl)); intro gb321 hg w3 hbox hb; have n0_ := Aside0.mk (below_step (Bw HB.out) hb); have n1_ := Aside0.mk (hbox); have n2_ := Aside0.mk (Gs hg (Bw HB.out)); have n3_ := Aside0.mk (Gs hg (Bw HB.out)); clear HB; have HB := n0_; have BK321 := n1_; have GW321 := n2_; have GE321 := n3_; clear n0_ n1_ n2_ n3_; clear hb hbox hg)); go_upto_region 1 with (first | ((with_reducible refine gate_dst (N := 1) rfl ?_); refine box_event ?hg (N := 1) ?hd (cs := #[.int .i64 a0_0, .slice A0_1 l0_1.length c0_1]) (t := 26) ?hr ?_; (case hd => rfl); (case hg => rfl); (case hr => first | (go_simp; done) | (go_simp; rfl)); intro gb321 hg w3 hbox hb; have n0_ := Aside0.mk (below_step (Bw HB.out) hb); have n1_ := Aside0.mk (hbox); have n2_ := Aside0.mk (Gs hg (Bw HB.out)); have n3_ := Aside0.mk (Gs hg (Bw HB.out)); clear HB; have HB := n0_; have BK321 := n1_; have GW321 := n2_; have GE321 := n3_; clear n0_ n1_ n2_ n3_; clear hb hbox hg)))
 (try simp only [Act.put, List.setIfInBounds_toArray, List.set_cons_zero, List.set_cons_succ])
 go_cut [13] (fun v13 wc => ∃ (kq : Nat) (x13_1 : Bool), v13 = .bool x13_1 ∧ Aside0 (examboardref41_Valid.j0 kq x13_1 a0_0 l0_1 = some r) ∧ Aside0 (kq ≤ k) ∧ Aside0 (wc.heap[gb321]? = some (.cells #[.int .i64 a0_0, (.slice A0_1 l0_1.length c0_1)] 26 (0, 0))) ∧ Aside0 (Below w.heap.size w wc))
 case first =>
  have H := HC2.out
  clear HC2
  by_cases c4 : a0_0 < 1
  ·
   rw [if_pos c4] at H
   have c4b0 : decide (a0_0 < 1) = true := decide_eq_true c4
   clear c4
   (first | rw [c4b0] | (simp only [i64_w, i32_w]; rw [c4b0]) | skip)
   have H' := Aside0.mk H
   clear H
   have hcz5_0 : w3.cell? ⟨gb321, 0, none⟩ = some (.int .i64 a0_0) := (blk_cell BK321.out 0).trans rfl
   have hcz5_1 : w3.cell? ⟨gb321, 1, none⟩ = some (.slice A0_1 l0_1.length c0_1) := (blk_cell BK321.out 1).trans rfl
   have hfz5_0 := blk_frozen BK321.out 0
   have hfz5_1 := blk_frozen BK321.out 1
   go_wp2
   repeat (go_quiet (fail); try go_wp2)
   go_meet
   case rel => exact ⟨_, (true), (by first | rfl | (simp; done) | (simp [*]; done)), H', ⟨by first | omega | exact Nat.le_refl _⟩, ⟨Bk BK321.out⟩, ⟨Bw HB.out⟩⟩
  ·
   rw [if_neg c4] at H
   have c4b0 : decide (a0_0 < 1) = false := decide_eq_false c4
   clear c4
   (first | rw [c4b0] | (simp only [i64_w, i32_w]; rw [c4b0]) | skip)
   have H' := Aside0.mk H
   clear H
   have hcz6_0 : w3.cell? ⟨gb321, 0, none⟩ = some (.int .i64 a0_0) := (blk_cell BK321.out 0).trans rfl
   have hcz6_1 : w3.cell? ⟨gb321, 1, none⟩ = some (.slice A0_1 l0_1.length c0_1) := (blk_cell BK321.out 1).trans rfl
   have hfz6_0 := blk_frozen BK321.out 0
   have hfz6_1 := blk_frozen BK321.out 1
   go_wp2
   repeat (go_quiet (fail); try go_wp2)
   go_meet
   case rel => exact ⟨_, (decide (a0_0 > 9999999)), (by first | rfl | (simp; done) | (simp [*]; done)), H', ⟨by first | omega | exact Nat.le_refl _⟩, ⟨Bk BK321.out⟩, ⟨Bw HB.out⟩⟩
 case rest =>
  clear HC2
  (try clear p2); (try clear c4); (try clear c4b0); (try clear hcz5_0); (try clear hcz5_1); (try clear hcz6_0); (try clear hcz6_1); (try clear hfz5_0); (try clear hfz5_1); (try clear hfz6_0); (try clear hfz6_1)
  obtain ⟨kq, x13_1, rfl, HA, HJ1, BK321, HB⟩ := hcut
  cases kq with
  | zero => exact absurd HA.out (by simp [examboardref41_Valid.j0])
  | succ kj1 =>
   have H := HA.out
   clear HA
   simp only [examboardref41_Valid.j0] at H
   by_cases c7 : x13_1 = true
   ·
    subst c7
    have H1 : (some 3) = some r := by rw [if_pos rfl] at H; exact H
    clear H
    have H := H1
    clear H1
    obtain rfl := Option.some.inj H
    go_wp2
    repeat (go_quiet (fail); try go_wp2)
    go_ret
    exact ⟨Es, Bw HB.out⟩
   ·
    replace c7 := Bool.eq_false_iff.mpr c7
    subst c7
    have H1 : (if (l0_1.length : Int) > 6 then (some 5) else (if (l0_1.length : Int) = 0 then (some 20) else (examboardref41_Valid.l0 kj1 0 a0_0 l0_1))) = some r := by rw [if_neg (show ¬ (false = true) by decide)] at H; exact H
    clear H
    have H := H1
    clear H1
    by_cases c8 : (l0_1.length : Int) > 6
    ·
     rw [if_pos c8] at H
     have c8b0 : decide (6 < (l0_1.length : Int)) = true := decide_eq_true c8
     have c8b1 : decide (6 < l0_1.length) = true := decide_eq_true (by omega)
     clear c8
     obtain rfl := Option.some.inj H
     have hcz9_0 : wc.cell? ⟨gb321, 0, none⟩ = some (.int .i64 a0_0) := (blk_cell BK321.out 0).trans rfl
     have hcz9_1 : wc.cell? ⟨gb321, 1, none⟩ = some (.slice A0_1 l0_1.length c0_1) := (blk_cell BK321.out 1).trans rfl
     have hfz9_0 := blk_frozen BK321.out 0
     have hfz9_1 := blk_frozen BK321.out 1
     go_wp2
     repeat (go_quiet (fail); try go_wp2)
     go_ret
     exact ⟨Es, Bw HB.out⟩
    ·
     rw [if_neg c8] at H
     have c8b0 : decide (6 < (l0_1.length : Int)) = false := decide_eq_false c8
     have c8b1 : decide (6 < l0_1.length) = false := decide_eq_false (by omega)
     clear c8
     by_cases c10 : (l0_1.length : Int) = 0
     ·
      rw [if_pos c10] at H
      have c10b0 : ((l0_1.length : Int) == 0) = true := beq_iff_eq.mpr c10
      have c10b1 : ((l0_1.length : Int) != 0) = false := bne_eq_false_iff_eq.mpr c10
      clear c10
      obtain rfl := Option.some.inj H
      have hcz11_0 : wc.cell? ⟨gb321, 0, none⟩ = some (.int .i64 a0_0) := (blk_cell BK321.out 0).trans rfl
      have hcz11_1 : wc.cell? ⟨gb321, 1, none⟩ = some (.slice A0_1 l0_1.length c0_1) := (blk_cell BK321.out 1).trans rfl
      have hfz11_0 := blk_frozen BK321.out 0
      have hfz11_1 := blk_frozen BK321.out 1
      go_wp2
      repeat (go_quiet (fail); try go_wp2)
      go_ret
      exact ⟨Es, Bw HB.out⟩
     ·
      rw [if_neg c10] at H
      have c10b0 : ((l0_1.length : Int) == 0) = false := beq_eq_false_iff_ne.mpr c10
      have c10b1 : ((l0_1.length : Int) != 0) = true := bne_iff_ne.mpr c10
      have c10b2 : ¬ (l0_1 = []) := fun h_ => c10 (by rw [h_]; rfl)
      have H' := Aside0.mk H
      clear H
      have hcz12_0 : wc.cell? ⟨gb321, 0, none⟩ = some (.int .i64 a0_0) := (blk_cell BK321.out 0).trans rfl
      have hcz12_1 : wc.cell? ⟨gb321, 1, none⟩ = some (.slice A0_1 l0_1.length c0_1) := (blk_cell BK321.out 1).trans rfl
      have hfz12_0 := blk_frozen BK321.out 0
      have hfz12_1 := blk_frozen BK321.out 1
      go_wp2
      repeat (go_quiet (fail); try go_wp2)
      go_loopg [3] kj1 (fun kq v3 w' => ∃ (x3_2 : Int), v3 = .int .i64 x3_2 ∧ Aside0 (examboardref41_Valid.l0 kq x3_2 a0_0 l0_1 = some r) ∧ Aside0 (kq ≤ kj1) ∧ Aside0 (w'.heap[gb321]? = some (.cells #[.int .i64 a0_0, (.slice A0_1 l0_1.length c0_1)] 26 (0, 0))) ∧ Aside0 (Below w.heap.size w w'))
      case atStart => exact ⟨(0), (by first | rfl | (simp; done) | (simp [*]; done)), H', ⟨Nat.le_refl _⟩, ⟨Bk BK321.out⟩, ⟨Bw HB.out⟩⟩
      case round =>
       clear H'
       (try clear c1); (try clear p2); (try clear c4); (try clear c4b0); (try clear c7); (try clear c8); (try clear c8b0); (try clear c8b1); (try clear c10); (try clear c10b0); (try clear c10b1); (try clear c10b2); (try clear hcz11_0); (try clear hcz11_1); (try clear hcz12_0); (try clear hcz12_1); (try clear hcz5_0); (try clear hcz5_1); (try clear hcz6_0); (try clear hcz6_1); (try clear hcz9_0); (try clear hcz9_1); (try clear hfz11_0); (try clear hfz11_1); (try clear hfz12_0); (try clear hfz12_1); (try clear hfz5_0); (try clear hfz5_1); (try clear hfz6_0); (try clear hfz6_1); (try clear hfz9_0); (try clear hfz9_1); (try clear p2)
       obtain ⟨x3_2, rfl, HA, HK2, BK321, HB⟩ := hrel
       cases gk with
       | zero => exact absurd HA.out (by simp [examboardref41_Valid.l0])
       | succ k2 =>
        have H := HA.out
        clear HA
        simp only [examboardref41_Valid.l0] at H
        by_cases c13 : x3_2 < (l0_1.length : Int)
        ·
         rw [if_pos c13] at H
         have c13b0 : decide (x3_2 < (l0_1.length : Int)) = true := decide_eq_true c13
         clear c13
         by_cases c14 : 0 ≤ x3_2
         ·
          rw [if_pos c14] at H
          have c14b0 : decide (0 ≤ x3_2) = true := decide_eq_true c14
          clear c14
          replace H := Option.bind_eq_some_iff.mp H
          obtain ⟨t324, A150, H⟩ := H
          replace H : (if t324 = true then (examboardref41_Valid.l1 k2 x3_2 0 a0_0 l0_1 ((rd_T59 l0_1 x3_2).f0) ((rd_T59 l0_1 x3_2).f1) ((rd_T59 l0_1 x3_2).f2)) else (some 2)) = some r := H
          have A15 := Aside0.mk A150
          clear A150
          by_cases c16 : t324 = true
          ·
           subst c16
           have H1 : (examboardref41_Valid.l1 k2 x3_2 0 a0_0 l0_1 ((rd_T59 l0_1 x3_2).f0) ((rd_T59 l0_1 x3_2).f1) ((rd_T59 l0_1 x3_2).f2)) = some r := by rw [if_pos rfl] at H; exact H
           clear H
           have H := H1
           clear H1
           have H' := Aside0.mk H
           clear H
           have hcz17_0 : wr.cell? ⟨gb321, 0, none⟩ = some (.int .i64 a0_0) := (blk_cell BK321.out 0).trans rfl
           have hcz17_1 : wr.cell? ⟨gb321, 1, none⟩ = some (.slice A0_1 l0_1.length c0_1) := (blk_cell BK321.out 1).trans rfl
           have hfz17_0 := blk_frozen BK321.out 0
           have hfz17_1 := blk_frozen BK321.out 1
           have p322 : 0 ≤ (x3_2 : Int) := of_decide_eq_true (by first | (with_reducible assumption) | assumption)
           have q322 : x3_2 < (l0_1.length : Int) := of_decide_eq_true (by first | (with_reducible assumption) | assumption)
           obtain ⟨ad322, e322, hx322_0, hx322_1, hx322_2⟩ := at_T59 HR0_1.out x3_2 p322 q322
           cases e322
           replace hx322_0 := (HB.out.cell (World.block_lt_of_cell? w _ hx322_0)).trans hx322_0
           replace hx322_1 := (HB.out.cell (World.block_lt_of_cell? w _ hx322_1)).trans hx322_1
           replace hx322_2 := (HB.out.cell (World.block_lt_of_cell? w _ hx322_2)).trans hx322_2
           replace p322 := eq_true p322
           replace q322 := eq_true q322
           go_wp2_with (first | ((with_reducible refine gate_dst (N := 4) rfl ?_); refine box_event ?hg (N := 4) ?hd (cs := #[.string (⟨#[]⟩ : ByteArray), .int .i64 0, .int .i64 0]) (t := 59) ?hr ?_; (case hd => rfl); (case hg => rfl); (case hr => first | (go_simp; done) | (go_simp; rfl)); intro gb323 hg w18 hbox hb; have n0_ := Aside0.mk (blk_below (g := gb321) (o := .cells #[.int .i64 a0_0, .slice (some ad322) l0_1.length c0_1] 26 (0, 0)) (Bk BK321.out) hb); have n1_ := Aside0.mk (below_step (Bw HB.out) hb); have n2_ := Aside0.mk (hbox); have n3_ := Aside0.mk (Gs hg (Bw HB.out)); have n4_ := Aside0.mk (Gs hg (Bw HB.out)); have n5_ := Aside0.mk ((by rw [hg]; exact Nat.ne_of_lt (blk_lt (g := gb321) (o := .cells #[.int .i64 a0_0, .slice (some ad322) l0_1.length c0_1] 26 (0, 0)) (Bk BK321.out)) : gb321 ≠ gb323)); have n6_ := Aside0.mk ((by rw [hg]; exact Nat.ne_of_gt (blk_lt (g := gb321) (o := .cells #[.int .i64 a0_0, .slice (some ad322) l0_1.length c0_1] 26 (0, 0)) (Bk BK321.out)) : gb323 ≠ gb321)); clear BK321; clear HB; have BK321 := n0_; have HB := n1_; have BK323 := n2_; have GW323 := n3_; have GE323 := n4_; have NB321_323 := n5_; have NB323_321 := n6_; clear n0_ n1_ n2_ n3_ n4_ n5_ n6_; clear hb hbox hg; have hnb19 := NB323_321.out; have hnc19 := NB321_323.out; have hcz20_0 : w18.cell? ⟨gb323, 0, none⟩ = some (.string (⟨#[]⟩ : ByteArray)) := (blk_cell BK323.out 0).trans rfl; have hcz20_1 : w18.cell? ⟨gb323, 1, none⟩ = some (.int .i64 0) := (blk_cell BK323.out 1).trans rfl; have hcz20_2 : w18.cell? ⟨gb323, 2, none⟩ = some (.int .i64 0) := (blk_cell BK323.out 2).trans rfl; have hfz20_0 := blk_frozen BK323.out 0; have hfz20_1 := blk_frozen BK323.out 1; have hfz20_2 := blk_frozen BK323.out 2) | (go_at_call 49; (with_reducible refine (examboardref41_letters.calls k2 ((rd_T59 l0_1 x3_2).f0) true _ A15.out).mono ?_); rintro e w' ⟨rfl, ⟨nd, rfl⟩⟩; (try first | exact ⟨rfl, _, World.drewN_drewN _ _ _⟩ | exact ⟨rfl, _, Eq.trans (World.drewN_drewN _ _ _) (congrArg (World.drewN _) (Nat.add_assoc _ _ _))⟩)))
           repeat (go_quiet (first | ((with_reducible refine gate_dst (N := 4) rfl ?_); refine box_event ?hg (N := 4) ?hd (cs := #[.string (⟨#[]⟩ : ByteArray), .int .i64 0, .int .i64 0]) (t := 59) ?hr ?_; (case hd => rfl); (case hg => rfl); (case hr => first | (go_simp; done) | (go_simp; rfl)); intro gb323 hg w18 hbox hb; have n0_ := Aside0.mk (blk_below (g := gb321) (o := .cells #[.int .i64 a0_0, .slice (some ad322) l0_1.length c0_1] 26 (0, 0)) (Bk BK321.out) hb); have n1_ := Aside0.mk (below_step (Bw HB.out) hb); have n2_ := Aside0.mk (hbox); have n3_ := Aside0.mk (Gs hg (Bw HB.out)); have n4_ := Aside0.mk (Gs hg (Bw HB.out)); have n5_ := Aside0.mk ((by rw [hg]; exact Nat.ne_of_lt (blk_lt (g := gb321) (o := .cells #[.int .i64 a0_0, .slice (some ad322) l0_1.length c0_1] 26 (0, 0)) (Bk BK321.out)) : gb321 ≠ gb323)); have n6_ := Aside0.mk ((by rw [hg]; exact Nat.ne_of_gt (blk_lt (g := gb321) (o := .cells #[.int .i64 a0_0, .slice (some ad322) l0_1.length c0_1] 26 (0, 0)) (Bk BK321.out)) : gb323 ≠ gb321)); clear BK321; clear HB; have BK321 := n0_; have HB := n1_; have BK323 := n2_; have GW323 := n3_; have GE323 := n4_; have NB321_323 := n5_; have NB323_321 := n6_; clear n0_ n1_ n2_ n3_ n4_ n5_ n6_; clear hb hbox hg; have hnb19 := NB323_321.out; have hnc19 := NB321_323.out; have hcz20_0 : w18.cell? ⟨gb323, 0, none⟩ = some (.string (⟨#[]⟩ : ByteArray)) := (blk_cell BK323.out 0).trans rfl; have hcz20_1 : w18.cell? ⟨gb323, 1, none⟩ = some (.int .i64 0) := (blk_cell BK323.out 1).trans rfl; have hcz20_2 : w18.cell? ⟨gb323, 2, none⟩ = some (.int .i64 0) := (blk_cell BK323.out 2).trans rfl; have hfz20_0 := blk_frozen BK323.out 0; have hfz20_1 := blk_frozen BK323.out 1; have hfz20_2 := blk_frozen BK323.out 2) | (go_at_call 49; (with_reducible refine (examboardref41_letters.calls k2 ((rd_T59 l0_1 x3_2).f0) true _ A15.out).mono ?_); rintro e w' ⟨rfl, ⟨nd, rfl⟩⟩; (try first | exact ⟨rfl, _, World.drewN_drewN _ _ _⟩ | exact ⟨rfl, _, Eq.trans (World.drewN_drewN _ _ _) (congrArg (World.drewN _) (Nat.add_assoc _ _ _))⟩))); try go_wp2_with (first | ((with_reducible refine gate_dst (N := 4) rfl ?_); refine box_event ?hg (N := 4) ?hd (cs := #[.string (⟨#[]⟩ : ByteArray), .int .i64 0, .int .i64 0]) (t := 59) ?hr ?_; (case hd => rfl); (case hg => rfl); (case hr => first | (go_simp; done) | (go_simp; rfl)); intro gb323 hg w18 hbox hb; have n0_ := Aside0.mk (blk_below (g := gb321) (o := .cells #[.int .i64 a0_0, .slice (some ad322) l0_1.length c0_1] 26 (0, 0)) (Bk BK321.out) hb); have n1_ := Aside0.mk (below_step (Bw HB.out) hb); have n2_ := Aside0.mk (hbox); have n3_ := Aside0.mk (Gs hg (Bw HB.out)); have n4_ := Aside0.mk (Gs hg (Bw HB.out)); have n5_ := Aside0.mk ((by rw [hg]; exact Nat.ne_of_lt (blk_lt (g := gb321) (o := .cells #[.int .i64 a0_0, .slice (some ad322) l0_1.length c0_1] 26 (0, 0)) (Bk BK321.out)) : gb321 ≠ gb323)); have n6_ := Aside0.mk ((by rw [hg]; exact Nat.ne_of_gt (blk_lt (g := gb321) (o := .cells #[.int .i64 a0_0, .slice (some ad322) l0_1.length c0_1] 26 (0, 0)) (Bk BK321.out)) : gb323 ≠ gb321)); clear BK321; clear HB; have BK321 := n0_; have HB := n1_; have BK323 := n2_; have GW323 := n3_; have GE323 := n4_; have NB321_323 := n5_; have NB323_321 := n6_; clear n0_ n1_ n2_ n3_ n4_ n5_ n6_; clear hb hbox hg; have hnb19 := NB323_321.out; have hnc19 := NB321_323.out; have hcz20_0 : w18.cell? ⟨gb323, 0, none⟩ = some (.string (⟨#[]⟩ : ByteArray)) := (blk_cell BK323.out 0).trans rfl; have hcz20_1 : w18.cell? ⟨gb323, 1, none⟩ = some (.int .i64 0) := (blk_cell BK323.out 1).trans rfl; have hcz20_2 : w18.cell? ⟨gb323, 2, none⟩ = some (.int .i64 0) := (blk_cell BK323.out 2).trans rfl; have hfz20_0 := blk_frozen BK323.out 0; have hfz20_1 := blk_frozen BK323.out 1; have hfz20_2 := blk_frozen BK323.out 2) | (go_at_call 49; (with_reducible refine (examboardref41_letters.calls k2 ((rd_T59 l0_1 x3_2).f0) true _ A15.out).mono ?_); rintro e w' ⟨rfl, ⟨nd, rfl⟩⟩; (try first | exact ⟨rfl, _, World.drewN_drewN _ _ _⟩ | exact ⟨rfl, _, Eq.trans (World.drewN_drewN _ _ _) (congrArg (World.drewN _) (Nat.add_assoc _ _ _))⟩))))
           go_loopg [5] k2 (fun kq v5 w' => ∃ (x5_3 : Int), v5 = .int .i64 x5_3 ∧ Aside0 (examboardref41_Valid.l1 kq x3_2 x5_3 a0_0 l0_1 ((rd_T59 l0_1 x3_2).f0) ((rd_T59 l0_1 x3_2).f1) ((rd_T59 l0_1 x3_2).f2) = some r) ∧ Aside0 (kq ≤ k2) ∧ Aside0 (w'.heap[gb321]? = some (.cells #[.int .i64 a0_0, (.slice (some ad322) l0_1.length c0_1)] 26 (0, 0))) ∧ Aside0 (w'.heap[gb323]? = some (.cells #[.string ((rd_T59 l0_1 x3_2).f0), .int .i64 ((rd_T59 l0_1 x3_2).f1), .int .i64 ((rd_T59 l0_1 x3_2).f2)] 59 (0, 0))) ∧ Aside0 (Below w.heap.size w w'))
           case atStart => exact ⟨(0), (by first | rfl | (simp; done) | (simp [*]; done)), H', ⟨Nat.le_refl _⟩, ⟨by (with_reducible repeat (first | refine blk_drewN ?_ _ | refine blk_drew ?_ | refine blk_alloc ?_ _)); refine blk_far ?_ NB321_323.out _; (with_reducible repeat (first | refine blk_drewN ?_ _ | refine blk_drew ?_ | refine blk_alloc ?_ _)); refine blk_far ?_ NB321_323.out _; (with_reducible repeat (first | refine blk_drewN ?_ _ | refine blk_drew ?_ | refine blk_alloc ?_ _)); refine blk_far ?_ NB321_323.out _; (with_reducible repeat (first | refine blk_drewN ?_ _ | refine blk_drew ?_ | refine blk_alloc ?_ _)); exact BK321.out⟩, ⟨by (with_reducible repeat (first | refine blk_drewN ?_ _ | refine blk_drew ?_ | refine blk_alloc ?_ _)); refine blk_put (cs := #[.string ((rd_T59 l0_1 x3_2).f0), .int .i64 ((rd_T59 l0_1 x3_2).f1), .int .i64 0]) ?_ 2 _ rfl; (with_reducible repeat (first | refine blk_drewN ?_ _ | refine blk_drew ?_ | refine blk_alloc ?_ _)); refine blk_put (cs := #[.string ((rd_T59 l0_1 x3_2).f0), .int .i64 0, .int .i64 0]) ?_ 1 _ rfl; (with_reducible repeat (first | refine blk_drewN ?_ _ | refine blk_drew ?_ | refine blk_alloc ?_ _)); refine blk_put (cs := #[.string (⟨#[]⟩ : ByteArray), .int .i64 0, .int .i64 0]) ?_ 0 _ rfl; (with_reducible repeat (first | refine blk_drewN ?_ _ | refine blk_drew ?_ | refine blk_alloc ?_ _)); exact BK323.out⟩, ⟨Bw HB.out⟩⟩
           case round =>
            clear H'
            (try clear c1); (try clear p2); (try clear p3); (try clear q3); (try clear hx3); (try clear c4); (try clear c4b0); (try clear c7); (try clear c8); (try clear c8b0); (try clear c8b1); (try clear c10); (try clear c10b0); (try clear c10b1); (try clear c10b2); (try clear c13); (try clear c13b0); (try clear c14); (try clear c14b0); (try clear c16); (try clear c19); (try clear hcz11_0); (try clear hcz11_1); (try clear hcz12_0); (try clear hcz12_1); (try clear hcz17_0); (try clear hcz17_1); (try clear hcz20_0); (try clear hcz20_1); (try clear hcz20_2); (try clear hcz5_0); (try clear hcz5_1); (try clear hcz6_0); (try clear hcz6_1); (try clear hcz9_0); (try clear hcz9_1); (try clear hfz11_0); (try clear hfz11_1); (try clear hfz12_0); (try clear hfz12_1); (try clear hfz17_0); (try clear hfz17_1); (try clear hfz20_0); (try clear hfz20_1); (try clear hfz20_2); (try clear hfz5_0); (try clear hfz5_1); (try clear hfz6_0); (try clear hfz6_1); (try clear hfz9_0); (try clear hfz9_1); (try clear hx322_0); (try clear hx322_1); (try clear hx322_2); (try clear p2); (try clear p322); (try clear q322)
            obtain ⟨x5_3, rfl, HA, HK3, BK321, BK323, HB⟩ := hrel
            cases gk with
            | zero => exact absurd HA.out (by simp [examboardref41_Valid.l1])
            | succ k3 =>
             have H := HA.out
             clear HA
             simp only [examboardref41_Valid.l1] at H
             by_cases c21 : x5_3 < x3_2
             ·
              rw [if_pos c21] at H
              have c21b0 : decide (x5_3 < x3_2) = true := decide_eq_true c21
              clear c21
              by_cases c22 : 0 ≤ x5_3
              ·
               rw [if_pos c22] at H
               have c22b0 : decide (0 ≤ x5_3) = true := decide_eq_true c22
               clear c22
               by_cases c23 : x5_3 < (l0_1.length : Int)
               ·
                rw [if_pos c23] at H
                have c23b0 : decide (x5_3 < (l0_1.length : Int)) = true := decide_eq_true c23
                clear c23
                by_cases c24 : ((rd_T59 l0_1 x5_3).f0).toList = ((rd_T59 l0_1 x3_2).f0).toList
                ·
                 rw [if_pos c24] at H
                 have c24b0 : (((rd_T59 l0_1 x5_3).f0).toList == ((rd_T59 l0_1 x3_2).f0).toList) = true := beq_iff_eq.mpr c24
                 have c24b1 : (((rd_T59 l0_1 x5_3).f0).toList != ((rd_T59 l0_1 x3_2).f0).toList) = false := bne_eq_false_iff_eq.mpr c24
                 clear c24
                 obtain rfl := Option.some.inj H
                 have hnb25 := NB321_323.out
                 have hnc25 := NB323_321.out
                 have hcz26_0 : wr.cell? ⟨gb321, 0, none⟩ = some (.int .i64 a0_0) := (blk_cell BK321.out 0).trans rfl
                 have hcz26_1 : wr.cell? ⟨gb321, 1, none⟩ = some (.slice (some ad322) l0_1.length c0_1) := (blk_cell BK321.out 1).trans rfl
                 have hfz26_0 := blk_frozen BK321.out 0
                 have hfz26_1 := blk_frozen BK321.out 1
                 have p325 : 0 ≤ (x5_3 : Int) := of_decide_eq_true (by first | (with_reducible assumption) | assumption)
                 have q325 : x5_3 < (l0_1.length : Int) := of_decide_eq_true (by first | (with_reducible assumption) | assumption)
                 obtain ⟨ad325, e325, hx325_0, hx325_1, hx325_2⟩ := at_T59 HR0_1.out x5_3 p325 q325
                 obtain rfl : ad322 = ad325 := (by injection e325)
                 replace hx325_0 := (HB.out.cell (World.block_lt_of_cell? w _ hx325_0)).trans hx325_0
                 replace hx325_1 := (HB.out.cell (World.block_lt_of_cell? w _ hx325_1)).trans hx325_1
                 replace hx325_2 := (HB.out.cell (World.block_lt_of_cell? w _ hx325_2)).trans hx325_2
                 replace p325 := eq_true p325
                 replace q325 := eq_true q325
                 have hcz27_0 : wr.cell? ⟨gb323, 0, none⟩ = some (.string ((rd_T59 l0_1 x3_2).f0)) := (blk_cell BK323.out 0).trans rfl
                 have hcz27_1 : wr.cell? ⟨gb323, 1, none⟩ = some (.int .i64 ((rd_T59 l0_1 x3_2).f1)) := (blk_cell BK323.out 1).trans rfl
                 have hcz27_2 : wr.cell? ⟨gb323, 2, none⟩ = some (.int .i64 ((rd_T59 l0_1 x3_2).f2)) := (blk_cell BK323.out 2).trans rfl
                 have hfz27_0 := blk_frozen BK323.out 0
                 have hfz27_1 := blk_frozen BK323.out 1
                 have hfz27_2 := blk_frozen BK323.out 2
                 go_wp2
                 repeat (go_quiet (fail); try go_wp2)
                 go_ret
                 exact ⟨Es, Bw HB.out⟩
                ·
                 rw [if_neg c24] at H
                 have c24b0 : (((rd_T59 l0_1 x5_3).f0).toList == ((rd_T59 l0_1 x3_2).f0).toList) = false := beq_eq_false_iff_ne.mpr c24
                 have c24b1 : (((rd_T59 l0_1 x5_3).f0).toList != ((rd_T59 l0_1 x3_2).f0).toList) = true := bne_iff_ne.mpr c24
                 have H' := Aside0.mk H
                 clear H
                 have hnb28 := NB321_323.out
                 have hnc28 := NB323_321.out
                 have hcz29_0 : wr.cell? ⟨gb321, 0, none⟩ = some (.int .i64 a0_0) := (blk_cell BK321.out 0).trans rfl
                 have hcz29_1 : wr.cell? ⟨gb321, 1, none⟩ = some (.slice (some ad322) l0_1.length c0_1) := (blk_cell BK321.out 1).trans rfl
                 have hfz29_0 := blk_frozen BK321.out 0
                 have hfz29_1 := blk_frozen BK321.out 1
                 have p325 : 0 ≤ (x5_3 : Int) := of_decide_eq_true (by first | (with_reducible assumption) | assumption)
                 have q325 : x5_3 < (l0_1.length : Int) := of_decide_eq_true (by first | (with_reducible assumption) | assumption)
                 obtain ⟨ad325, e325, hx325_0, hx325_1, hx325_2⟩ := at_T59 HR0_1.out x5_3 p325 q325
                 obtain rfl : ad322 = ad325 := (by injection e325)
                 replace hx325_0 := (HB.out.cell (World.block_lt_of_cell? w _ hx325_0)).trans hx325_0
                 replace hx325_1 := (HB.out.cell (World.block_lt_of_cell? w _ hx325_1)).trans hx325_1
                 replace hx325_2 := (HB.out.cell (World.block_lt_of_cell? w _ hx325_2)).trans hx325_2
                 replace p325 := eq_true p325
                 replace q325 := eq_true q325
                 have hcz30_0 : wr.cell? ⟨gb323, 0, none⟩ = some (.string ((rd_T59 l0_1 x3_2).f0)) := (blk_cell BK323.out 0).trans rfl
                 have hcz30_1 : wr.cell? ⟨gb323, 1, none⟩ = some (.int .i64 ((rd_T59 l0_1 x3_2).f1)) := (blk_cell BK323.out 1).trans rfl
                 have hcz30_2 : wr.cell? ⟨gb323, 2, none⟩ = some (.int .i64 ((rd_T59 l0_1 x3_2).f2)) := (blk_cell BK323.out 2).trans rfl
                 have hfz30_0 := blk_frozen BK323.out 0
                 have hfz30_1 := blk_frozen BK323.out 1
                 have hfz30_2 := blk_frozen BK323.out 2
                 go_wp2
                 repeat (go_quiet (fail); try go_wp2)
                 go_roundg k3
                 case measure => have := HJ1.out; have := HK2.out; have := HK3.out; omega
                 case rel => exact ⟨(wrap64 (x5_3 + 1)), (by first | rfl | (simp; done) | (simp [*]; done)), H', ⟨by have := HJ1.out; have := HK2.out; have := HK3.out; omega⟩, ⟨Bk BK321.out⟩, ⟨Bk BK323.out⟩, ⟨Bw HB.out⟩⟩
               ·
                rw [if_neg c23] at H
                exact absurd H (by simp)
              ·
               rw [if_neg c22] at H
               exact absurd H (by simp)
             ·
              rw [if_neg c21] at H
              have c21b0 : decide (x5_3 < x3_2) = false := decide_eq_false c21
              clear c21
              by_cases c31 : ((rd_T59 l0_1 x3_2).f1) < 1
              ·
               rw [if_pos c31] at H
               have c31b0 : decide (((rd_T59 l0_1 x3_2).f1) < 1) = true := decide_eq_true c31
               clear c31
               obtain rfl := Option.some.inj H
               have hnb32 := NB323_321.out
               have hnc32 := NB321_323.out
               have hcz33_0 : wr.cell? ⟨gb323, 0, none⟩ = some (.string ((rd_T59 l0_1 x3_2).f0)) := (blk_cell BK323.out 0).trans rfl
               have hcz33_1 : wr.cell? ⟨gb323, 1, none⟩ = some (.int .i64 ((rd_T59 l0_1 x3_2).f1)) := (blk_cell BK323.out 1).trans rfl
               have hcz33_2 : wr.cell? ⟨gb323, 2, none⟩ = some (.int .i64 ((rd_T59 l0_1 x3_2).f2)) := (blk_cell BK323.out 2).trans rfl
               have hfz33_0 := blk_frozen BK323.out 0
               have hfz33_1 := blk_frozen BK323.out 1
               have hfz33_2 := blk_frozen BK323.out 2
               go_wp2
               repeat (go_quiet (fail); try go_wp2)
               go_ret
               exact ⟨Es, Bw HB.out⟩
              ·
               rw [if_neg c31] at H
               have c31b0 : decide (((rd_T59 l0_1 x3_2).f1) < 1) = false := decide_eq_false c31
               clear c31
               by_cases c34 : ((rd_T59 l0_1 x3_2).f1) > 10
               ·
                rw [if_pos c34] at H
                have c34b0 : decide (10 < ((rd_T59 l0_1 x3_2).f1)) = true := decide_eq_true c34
                clear c34
                obtain rfl := Option.some.inj H
                have hnb35 := NB323_321.out
                have hnc35 := NB321_323.out
                have hcz36_0 : wr.cell? ⟨gb323, 0, none⟩ = some (.string ((rd_T59 l0_1 x3_2).f0)) := (blk_cell BK323.out 0).trans rfl
                have hcz36_1 : wr.cell? ⟨gb323, 1, none⟩ = some (.int .i64 ((rd_T59 l0_1 x3_2).f1)) := (blk_cell BK323.out 1).trans rfl
                have hcz36_2 : wr.cell? ⟨gb323, 2, none⟩ = some (.int .i64 ((rd_T59 l0_1 x3_2).f2)) := (blk_cell BK323.out 2).trans rfl
                have hfz36_0 := blk_frozen BK323.out 0
                have hfz36_1 := blk_frozen BK323.out 1
                have hfz36_2 := blk_frozen BK323.out 2
                go_wp2
                repeat (go_quiet (fail); try go_wp2)
                go_ret
                exact ⟨Es, Bw HB.out⟩
               ·
                rw [if_neg c34] at H
                have c34b0 : decide (10 < ((rd_T59 l0_1 x3_2).f1)) = false := decide_eq_false c34
                clear c34
                by_cases c37 : ((rd_T59 l0_1 x3_2).f2) < 1
                ·
                 rw [if_pos c37] at H
                 have c37b0 : decide (((rd_T59 l0_1 x3_2).f2) < 1) = true := decide_eq_true c37
                 clear c37
                 obtain rfl := Option.some.inj H
                 have hnb38 := NB323_321.out
                 have hnc38 := NB321_323.out
                 have hcz39_0 : wr.cell? ⟨gb323, 0, none⟩ = some (.string ((rd_T59 l0_1 x3_2).f0)) := (blk_cell BK323.out 0).trans rfl
                 have hcz39_1 : wr.cell? ⟨gb323, 1, none⟩ = some (.int .i64 ((rd_T59 l0_1 x3_2).f1)) := (blk_cell BK323.out 1).trans rfl
                 have hcz39_2 : wr.cell? ⟨gb323, 2, none⟩ = some (.int .i64 ((rd_T59 l0_1 x3_2).f2)) := (blk_cell BK323.out 2).trans rfl
                 have hfz39_0 := blk_frozen BK323.out 0
                 have hfz39_1 := blk_frozen BK323.out 1
                 have hfz39_2 := blk_frozen BK323.out 2
                 go_wp2
                 repeat (go_quiet (fail); try go_wp2)
                 go_ret
                 exact ⟨Es, Bw HB.out⟩
                ·
                 rw [if_neg c37] at H
                 have c37b0 : decide (((rd_T59 l0_1 x3_2).f2) < 1) = false := decide_eq_false c37
                 clear c37
                 by_cases c40 : ((rd_T59 l0_1 x3_2).f2) > 10
                 ·
                  rw [if_pos c40] at H
                  have c40b0 : decide (10 < ((rd_T59 l0_1 x3_2).f2)) = true := decide_eq_true c40
                  clear c40
                  obtain rfl := Option.some.inj H
                  have hnb41 := NB323_321.out
                  have hnc41 := NB321_323.out
                  have hcz42_0 : wr.cell? ⟨gb323, 0, none⟩ = some (.string ((rd_T59 l0_1 x3_2).f0)) := (blk_cell BK323.out 0).trans rfl
                  have hcz42_1 : wr.cell? ⟨gb323, 1, none⟩ = some (.int .i64 ((rd_T59 l0_1 x3_2).f1)) := (blk_cell BK323.out 1).trans rfl
                  have hcz42_2 : wr.cell? ⟨gb323, 2, none⟩ = some (.int .i64 ((rd_T59 l0_1 x3_2).f2)) := (blk_cell BK323.out 2).trans rfl
                  have hfz42_0 := blk_frozen BK323.out 0
                  have hfz42_1 := blk_frozen BK323.out 1
                  have hfz42_2 := blk_frozen BK323.out 2
                  go_wp2
                  repeat (go_quiet (fail); try go_wp2)
                  go_ret
                  exact ⟨Es, Bw HB.out⟩
                 ·
                  rw [if_neg c40] at H
                  have c40b0 : decide (10 < ((rd_T59 l0_1 x3_2).f2)) = false := decide_eq_false c40
                  clear c40
                  have H' := Aside0.mk H
                  clear H
                  have hnb43 := NB323_321.out
                  have hnc43 := NB321_323.out
                  have hcz44_0 : wr.cell? ⟨gb323, 0, none⟩ = some (.string ((rd_T59 l0_1 x3_2).f0)) := (blk_cell BK323.out 0).trans rfl
                  have hcz44_1 : wr.cell? ⟨gb323, 1, none⟩ = some (.int .i64 ((rd_T59 l0_1 x3_2).f1)) := (blk_cell BK323.out 1).trans rfl
                  have hcz44_2 : wr.cell? ⟨gb323, 2, none⟩ = some (.int .i64 ((rd_T59 l0_1 x3_2).f2)) := (blk_cell BK323.out 2).trans rfl
                  have hfz44_0 := blk_frozen BK323.out 0
                  have hfz44_1 := blk_frozen BK323.out 1
                  have hfz44_2 := blk_frozen BK323.out 2
                  go_wp2
                  repeat (go_quiet (fail); try go_wp2)
                  go_roundg k3
                  case measure => have := HJ1.out; have := HK2.out; have := HK3.out; omega
                  case rel => exact ⟨(wrap64 (x3_2 + 1)), (by first | rfl | (simp; done) | (simp [*]; done)), H', ⟨by have := HJ1.out; have := HK2.out; have := HK3.out; omega⟩, ⟨Bk BK321.out⟩, ⟨Bw HB.out⟩⟩
          ·
           replace c16 := Bool.eq_false_iff.mpr c16
           subst c16
           have H1 : (some 2) = some r := by rw [if_neg (show ¬ (false = true) by decide)] at H; exact H
           clear H
           have H := H1
           clear H1
           obtain rfl := Option.some.inj H
           have hcz45_0 : wr.cell? ⟨gb321, 0, none⟩ = some (.int .i64 a0_0) := (blk_cell BK321.out 0).trans rfl
           have hcz45_1 : wr.cell? ⟨gb321, 1, none⟩ = some (.slice A0_1 l0_1.length c0_1) := (blk_cell BK321.out 1).trans rfl
           have hfz45_0 := blk_frozen BK321.out 0
           have hfz45_1 := blk_frozen BK321.out 1
           have p322 : 0 ≤ (x3_2 : Int) := of_decide_eq_true (by first | (with_reducible assumption) | assumption)
           have q322 : x3_2 < (l0_1.length : Int) := of_decide_eq_true (by first | (with_reducible assumption) | assumption)
           obtain ⟨ad322, e322, hx322_0, hx322_1, hx322_2⟩ := at_T59 HR0_1.out x3_2 p322 q322
           cases e322
           replace hx322_0 := (HB.out.cell (World.block_lt_of_cell? w _ hx322_0)).trans hx322_0
           replace hx322_1 := (HB.out.cell (World.block_lt_of_cell? w _ hx322_1)).trans hx322_1
           replace hx322_2 := (HB.out.cell (World.block_lt_of_cell? w _ hx322_2)).trans hx322_2
           replace p322 := eq_true p322
           replace q322 := eq_true q322
           go_wp2_with (first | ((with_reducible refine gate_dst (N := 4) rfl ?_); refine box_event ?hg (N := 4) ?hd (cs := #[.string (⟨#[]⟩ : ByteArray), .int .i64 0, .int .i64 0]) (t := 59) ?hr ?_; (case hd => rfl); (case hg => rfl); (case hr => first | (go_simp; done) | (go_simp; rfl)); intro gb323 hg w46 hbox hb; have n0_ := Aside0.mk (blk_below (g := gb321) (o := .cells #[.int .i64 a0_0, .slice (some ad322) l0_1.length c0_1] 26 (0, 0)) (Bk BK321.out) hb); have n1_ := Aside0.mk (below_step (Bw HB.out) hb); have n2_ := Aside0.mk (hbox); have n3_ := Aside0.mk (Gs hg (Bw HB.out)); have n4_ := Aside0.mk (Gs hg (Bw HB.out)); have n5_ := Aside0.mk ((by rw [hg]; exact Nat.ne_of_lt (blk_lt (g := gb321) (o := .cells #[.int .i64 a0_0, .slice (some ad322) l0_1.length c0_1] 26 (0, 0)) (Bk BK321.out)) : gb321 ≠ gb323)); have n6_ := Aside0.mk ((by rw [hg]; exact Nat.ne_of_gt (blk_lt (g := gb321) (o := .cells #[.int .i64 a0_0, .slice (some ad322) l0_1.length c0_1] 26 (0, 0)) (Bk BK321.out)) : gb323 ≠ gb321)); clear BK321; clear HB; have BK321 := n0_; have HB := n1_; have BK323 := n2_; have GW323 := n3_; have GE323 := n4_; have NB321_323 := n5_; have NB323_321 := n6_; clear n0_ n1_ n2_ n3_ n4_ n5_ n6_; clear hb hbox hg; have hnb47 := NB323_321.out; have hnc47 := NB321_323.out; have hcz48_0 : w46.cell? ⟨gb323, 0, none⟩ = some (.string (⟨#[]⟩ : ByteArray)) := (blk_cell BK323.out 0).trans rfl; have hcz48_1 : w46.cell? ⟨gb323, 1, none⟩ = some (.int .i64 0) := (blk_cell BK323.out 1).trans rfl; have hcz48_2 : w46.cell? ⟨gb323, 2, none⟩ = some (.int .i64 0) := (blk_cell BK323.out 2).trans rfl; have hfz48_0 := blk_frozen BK323.out 0; have hfz48_1 := blk_frozen BK323.out 1; have hfz48_2 := blk_frozen BK323.out 2) | (go_at_call 49; (with_reducible refine (examboardref41_letters.calls k2 ((rd_T59 l0_1 x3_2).f0) false _ A15.out).mono ?_); rintro e w' ⟨rfl, ⟨nd, rfl⟩⟩; (try first | exact ⟨rfl, _, World.drewN_drewN _ _ _⟩ | exact ⟨rfl, _, Eq.trans (World.drewN_drewN _ _ _) (congrArg (World.drewN _) (Nat.add_assoc _ _ _))⟩)))
           repeat (go_quiet (first | ((with_reducible refine gate_dst (N := 4) rfl ?_); refine box_event ?hg (N := 4) ?hd (cs := #[.string (⟨#[]⟩ : ByteArray), .int .i64 0, .int .i64 0]) (t := 59) ?hr ?_; (case hd => rfl); (case hg => rfl); (case hr => first | (go_simp; done) | (go_simp; rfl)); intro gb323 hg w46 hbox hb; have n0_ := Aside0.mk (blk_below (g := gb321) (o := .cells #[.int .i64 a0_0, .slice (some ad322) l0_1.length c0_1] 26 (0, 0)) (Bk BK321.out) hb); have n1_ := Aside0.mk (below_step (Bw HB.out) hb); have n2_ := Aside0.mk (hbox); have n3_ := Aside0.mk (Gs hg (Bw HB.out)); have n4_ := Aside0.mk (Gs hg (Bw HB.out)); have n5_ := Aside0.mk ((by rw [hg]; exact Nat.ne_of_lt (blk_lt (g := gb321) (o := .cells #[.int .i64 a0_0, .slice (some ad322) l0_1.length c0_1] 26 (0, 0)) (Bk BK321.out)) : gb321 ≠ gb323)); have n6_ := Aside0.mk ((by rw [hg]; exact Nat.ne_of_gt (blk_lt (g := gb321) (o := .cells #[.int .i64 a0_0, .slice (some ad322) l0_1.length c0_1] 26 (0, 0)) (Bk BK321.out)) : gb323 ≠ gb321)); clear BK321; clear HB; have BK321 := n0_; have HB := n1_; have BK323 := n2_; have GW323 := n3_; have GE323 := n4_; have NB321_323 := n5_; have NB323_321 := n6_; clear n0_ n1_ n2_ n3_ n4_ n5_ n6_; clear hb hbox hg; have hnb47 := NB323_321.out; have hnc47 := NB321_323.out; have hcz48_0 : w46.cell? ⟨gb323, 0, none⟩ = some (.string (⟨#[]⟩ : ByteArray)) := (blk_cell BK323.out 0).trans rfl; have hcz48_1 : w46.cell? ⟨gb323, 1, none⟩ = some (.int .i64 0) := (blk_cell BK323.out 1).trans rfl; have hcz48_2 : w46.cell? ⟨gb323, 2, none⟩ = some (.int .i64 0) := (blk_cell BK323.out 2).trans rfl; have hfz48_0 := blk_frozen BK323.out 0; have hfz48_1 := blk_frozen BK323.out 1; have hfz48_2 := blk_frozen BK323.out 2) | (go_at_call 49; (with_reducible refine (examboardref41_letters.calls k2 ((rd_T59 l0_1 x3_2).f0) false _ A15.out).mono ?_); rintro e w' ⟨rfl, ⟨nd, rfl⟩⟩; (try first | exact ⟨rfl, _, World.drewN_drewN _ _ _⟩ | exact ⟨rfl, _, Eq.trans (World.drewN_drewN _ _ _) (congrArg (World.drewN _) (Nat.add_assoc _ _ _))⟩))); try go_wp2_with (first | ((with_reducible refine gate_dst (N := 4) rfl ?_); refine box_event ?hg (N := 4) ?hd (cs := #[.string (⟨#[]⟩ : ByteArray), .int .i64 0, .int .i64 0]) (t := 59) ?hr ?_; (case hd => rfl); (case hg => rfl); (case hr => first | (go_simp; done) | (go_simp; rfl)); intro gb323 hg w46 hbox hb; have n0_ := Aside0.mk (blk_below (g := gb321) (o := .cells #[.int .i64 a0_0, .slice (some ad322) l0_1.length c0_1] 26 (0, 0)) (Bk BK321.out) hb); have n1_ := Aside0.mk (below_step (Bw HB.out) hb); have n2_ := Aside0.mk (hbox); have n3_ := Aside0.mk (Gs hg (Bw HB.out)); have n4_ := Aside0.mk (Gs hg (Bw HB.out)); have n5_ := Aside0.mk ((by rw [hg]; exact Nat.ne_of_lt (blk_lt (g := gb321) (o := .cells #[.int .i64 a0_0, .slice (some ad322) l0_1.length c0_1] 26 (0, 0)) (Bk BK321.out)) : gb321 ≠ gb323)); have n6_ := Aside0.mk ((by rw [hg]; exact Nat.ne_of_gt (blk_lt (g := gb321) (o := .cells #[.int .i64 a0_0, .slice (some ad322) l0_1.length c0_1] 26 (0, 0)) (Bk BK321.out)) : gb323 ≠ gb321)); clear BK321; clear HB; have BK321 := n0_; have HB := n1_; have BK323 := n2_; have GW323 := n3_; have GE323 := n4_; have NB321_323 := n5_; have NB323_321 := n6_; clear n0_ n1_ n2_ n3_ n4_ n5_ n6_; clear hb hbox hg; have hnb47 := NB323_321.out; have hnc47 := NB321_323.out; have hcz48_0 : w46.cell? ⟨gb323, 0, none⟩ = some (.string (⟨#[]⟩ : ByteArray)) := (blk_cell BK323.out 0).trans rfl; have hcz48_1 : w46.cell? ⟨gb323, 1, none⟩ = some (.int .i64 0) := (blk_cell BK323.out 1).trans rfl; have hcz48_2 : w46.cell? ⟨gb323, 2, none⟩ = some (.int .i64 0) := (blk_cell BK323.out 2).trans rfl; have hfz48_0 := blk_frozen BK323.out 0; have hfz48_1 := blk_frozen BK323.out 1; have hfz48_2 := blk_frozen BK323.out 2) | (go_at_call 49; (with_reducible refine (examboardref41_letters.calls k2 ((rd_T59 l0_1 x3_2).f0) false _ A15.out).mono ?_); rintro e w' ⟨rfl, ⟨nd, rfl⟩⟩; (try first | exact ⟨rfl, _, World.drewN_drewN _ _ _⟩ | exact ⟨rfl, _, Eq.trans (World.drewN_drewN _ _ _) (congrArg (World.drewN _) (Nat.add_assoc _ _ _))⟩))))
           go_ret
           exact ⟨Es, Bw HB.out⟩
         ·
          rw [if_neg c14] at H
          exact absurd H (by simp)
        ·
         rw [if_neg c13] at H
         have c13b0 : decide (x3_2 < (l0_1.length : Int)) = false := decide_eq_false c13
         clear c13
         obtain rfl := Option.some.inj H
         have hcz49_0 : wr.cell? ⟨gb321, 0, none⟩ = some (.int .i64 a0_0) := (blk_cell BK321.out 0).trans rfl
         have hcz49_1 : wr.cell? ⟨gb321, 1, none⟩ = some (.slice A0_1 l0_1.length c0_1) := (blk_cell BK321.out 1).trans rfl
         have hfz49_0 := blk_frozen BK321.out 0
         have hfz49_1 := blk_frozen BK321.out 1
         go_wp2
         repeat (go_quiet (fail); try go_wp2)
         go_ret
         exact ⟨Es, Bw HB.out⟩

end Go.Proofs.Ytkajeeikpffioaa.All
