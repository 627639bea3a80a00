-- Written by myprint.py for this claim: functions of the program as Lean functions, with the proofs that the calls come to them.
import Derived.Test.YthicnegcpafkkaaAllx0
import Derived.Test.YthicnegcpafkkaaAllx19
import Derived.Test.YthicnegcpafkkaaAllx24
import Derived.Test.YthicnegcpafkkaaAllx29
import Derived.Test.YthicnegcpafkkaaAllx36
namespace Go.Proofs.Ythicnegcpafkkaa.All
open Go.RowKit Go.Proofs.YthicnegcpafkkaaW.PrintWords Go.Proofs.YthicnegcpafkkaaW.PrintLast Go.Proofs.YthicnegcpafkkaaW.PrintMore
attribute [local go_sem] max2_int min2_int max_two min_two max_three min_three max_four min_four   -- for this text's walks alone
set_option linter.unusedVariables false
set_option linter.unusedSimpArgs false

/-! ### examboardlaw34_ZerooneKeeps: function 9 -/
mutual
def examboardlaw34_ZerooneKeeps.j0 : Nat → List Int → Int → Int → Bool → List Int → List (S45) → List Int → List Int → List (S45) → List Int → Option (Bool)
 | 0, _, _, _, _, _, _, _, _, _, _ => none
 | k + 1, x3, x4, x5, x55, x398000, x398001, x398002, x414000, x414001, x414002 => if x55 = true then (some false) else (examboardlaw34_ZerooneKeeps.l0 k x3 x4 x5 0 x398000 x398001 x398002 x414000 x414001 x414002)
def examboardlaw34_ZerooneKeeps.l0 : Nat → List Int → Int → Int → Int → List Int → List (S45) → List Int → List Int → List (S45) → List Int → Option (Bool)
 | 0, _, _, _, _, _, _, _, _, _, _ => none
 | k + 1, x3, x4, x5, x8, x398000, x398001, x398002, x414000, x414001, x414002 => if x8 < (x398002.length : Int) then (if 0 ≤ x8 then (if (rd x398002 x8) = (-1) then (if x5 = 0 then (if x8 < (x414002.length : Int) then (if (rd x414002 x8) = (-1) then (examboardlaw34_ZerooneKeeps.l0 k x3 x4 x5 (wrap64 (x8 + 1)) x398000 x398001 x398002 x414000 x414001 x414002) else (if x8 ≥ (x3.length : Int) then (some false) else (if x8 < (x3.length : Int) then (if (rd x3 x8) = (rd x414002 x8) then (examboardlaw34_ZerooneKeeps.l0 k x3 x4 x5 (wrap64 (x8 + 1)) x398000 x398001 x398002 x414000 x414001 x414002) else (some false)) else (none)))) else (none)) else (examboardlaw34_ZerooneKeeps.l0 k x3 x4 x5 (wrap64 (x8 + 1)) x398000 x398001 x398002 x414000 x414001 x414002)) else (if x8 < (x414002.length : Int) then (if (rd x414002 x8) = (rd x398002 x8) then (if x5 = 0 then (if (rd x414002 x8) = (-1) then (examboardlaw34_ZerooneKeeps.l0 k x3 x4 x5 (wrap64 (x8 + 1)) x398000 x398001 x398002 x414000 x414001 x414002) else (if x8 ≥ (x3.length : Int) then (some false) else (if x8 < (x3.length : Int) then (if (rd x3 x8) = (rd x414002 x8) then (examboardlaw34_ZerooneKeeps.l0 k x3 x4 x5 (wrap64 (x8 + 1)) x398000 x398001 x398002 x414000 x414001 x414002) else (some false)) else (none)))) else (examboardlaw34_ZerooneKeeps.l0 k x3 x4 x5 (wrap64 (x8 + 1)) x398000 x398001 x398002 x414000 x414001 x414002)) else (some false)) else (none))) else (none)) else ((zeroone_Solve.f x414000 x414001 x414002).bind fun bt424 => (if x5 = 0 then ((zeroone_Feasible.f k x398000 x398001 x398002 x3).bind fun t429 => (if t429 = true then (if x5 = bt424.2.2 then (if x4 = bt424.2.1 then ((examboardlaw34_ints.f k x3 bt424.1).bind fun t430 => (some t430)) else (some false)) else (some false)) else (some false))) else (if x5 = bt424.2.2 then (if x4 = bt424.2.1 then ((examboardlaw34_ints.f k x3 bt424.1).bind fun t431 => (some t431)) else (some false)) else (some false))))
end
def examboardlaw34_ZerooneKeeps.f (k : Nat) (l0_0 : List Int) (l0_1 : List (S45)) (l0_2 : List Int) : Option (Bool) := if (l0_0.length : Int) > 10 then (some true) else ((zeroone_Solve.f l0_0 l0_1 l0_2).bind fun bt398 => ((zeroone_Tighten.f k l0_0 l0_1 l0_2).bind fun bt403 => (if bt403.2.2.2 = 0 then ((examboardlaw34_ints.f k bt403.1 l0_0).bind fun t414 => (if t414 = true then (if (bt403.2.2.1.length : Int) = (l0_2.length : Int) then (examboardlaw34_ZerooneKeeps.j0 k bt398.1 bt398.2.1 bt398.2.2 ((bt403.2.1.length : Int) != (l0_1.length : Int)) l0_0 l0_1 l0_2 bt403.1 bt403.2.1 bt403.2.2.1) else (examboardlaw34_ZerooneKeeps.j0 k bt398.1 bt398.2.1 bt398.2.2 true l0_0 l0_1 l0_2 bt403.1 bt403.2.1 bt403.2.2.1)) else (examboardlaw34_ZerooneKeeps.j0 k bt398.1 bt398.2.1 bt398.2.2 true l0_0 l0_1 l0_2 bt403.1 bt403.2.1 bt403.2.2.1))) else (some (bt398.2.2 == bt403.2.2.2)))))
theorem examboardlaw34_ZerooneKeeps.mono_l : ∀ k, (∀ y0 y1 y2 y3 y4 y5 y6 y7 y8 y9, LeO (examboardlaw34_ZerooneKeeps.j0 k y0 y1 y2 y3 y4 y5 y6 y7 y8 y9) (examboardlaw34_ZerooneKeeps.j0 (k + 1) y0 y1 y2 y3 y4 y5 y6 y7 y8 y9)) ∧ (∀ y0 y1 y2 y3 y4 y5 y6 y7 y8 y9, LeO (examboardlaw34_ZerooneKeeps.l0 k y0 y1 y2 y3 y4 y5 y6 y7 y8 y9) (examboardlaw34_ZerooneKeeps.l0 (k + 1) y0 y1 y2 y3 y4 y5 y6 y7 y8 y9))
 | 0 => ⟨fun _ _ _ _ _ _ _ _ _ _ r h => by simp [examboardlaw34_ZerooneKeeps.j0] at h, fun _ _ _ _ _ _ _ _ _ _ r h => by simp [examboardlaw34_ZerooneKeeps.l0] at h⟩
 | k + 1 => by
  obtain ⟨ih0, ih1⟩ := examboardlaw34_ZerooneKeeps.mono_l k
  refine ⟨?_, ?_⟩
  ·
   intro y0 y1 y2 y3 y4 y5 y6 y7 y8 y9
   unfold examboardlaw34_ZerooneKeeps.j0
   repeat' first
   | (with_reducible exact ih0 _ _ _ _ _ _ _ _ _ _)
   | (with_reducible exact ih1 _ _ _ _ _ _ _ _ _ _)
   | (with_reducible exact examboardlaw34_ints.mono _ _ _)
   | (with_reducible exact zeroone_Feasible.mono _ _ _ _ _)
   | (with_reducible exact zeroone_Tighten.mono _ _ _ _)
   | (with_reducible exact LeO.refl _)
   | (with_reducible exact LeO.none _)
   | (with_reducible refine LeO.ite ?_ ?_)
   | (with_reducible refine LeO.bind ?_ (fun _ => ?_))
   | exact ih0 _ _ _ _ _ _ _ _ _ _
   | exact ih1 _ _ _ _ _ _ _ _ _ _
   | exact examboardlaw34_ints.mono _ _ _
   | exact zeroone_Feasible.mono _ _ _ _ _
   | exact zeroone_Tighten.mono _ _ _ _
   | exact LeO.none _
   | refine LeO.ite ?_ ?_
   | refine LeO.bind ?_ (fun _ => ?_)
  ·
   intro y0 y1 y2 y3 y4 y5 y6 y7 y8 y9
   unfold examboardlaw34_ZerooneKeeps.l0
   repeat' first
   | (with_reducible exact ih0 _ _ _ _ _ _ _ _ _ _)
   | (with_reducible exact ih1 _ _ _ _ _ _ _ _ _ _)
   | (with_reducible exact examboardlaw34_ints.mono _ _ _)
   | (with_reducible exact zeroone_Feasible.mono _ _ _ _ _)
   | (with_reducible exact zeroone_Tighten.mono _ _ _ _)
   | (with_reducible exact LeO.refl _)
   | (with_reducible exact LeO.none _)
   | (with_reducible refine LeO.ite ?_ ?_)
   | (with_reducible refine LeO.bind ?_ (fun _ => ?_))
   | exact ih0 _ _ _ _ _ _ _ _ _ _
   | exact ih1 _ _ _ _ _ _ _ _ _ _
   | exact examboardlaw34_ints.mono _ _ _
   | exact zeroone_Feasible.mono _ _ _ _ _
   | exact zeroone_Tighten.mono _ _ _ _
   | exact LeO.none _
   | refine LeO.ite ?_ ?_
   | refine LeO.bind ?_ (fun _ => ?_)
theorem examboardlaw34_ZerooneKeeps.mono : ∀ a0 a1 a2 k, LeO (examboardlaw34_ZerooneKeeps.f k a0 a1 a2) (examboardlaw34_ZerooneKeeps.f (k + 1) a0 a1 a2) := by
 intro a0 a1 a2 k
 obtain ⟨ih0, ih1⟩ := examboardlaw34_ZerooneKeeps.mono_l k
 unfold examboardlaw34_ZerooneKeeps.f
 repeat' first
   | (with_reducible exact ih0 _ _ _ _ _ _ _ _ _ _)
   | (with_reducible exact ih1 _ _ _ _ _ _ _ _ _ _)
   | (with_reducible exact examboardlaw34_ints.mono _ _ _)
   | (with_reducible exact zeroone_Feasible.mono _ _ _ _ _)
   | (with_reducible exact zeroone_Tighten.mono _ _ _ _)
   | (with_reducible exact LeO.refl _)
   | (with_reducible exact LeO.none _)
   | (with_reducible refine LeO.ite ?_ ?_)
   | (with_reducible refine LeO.bind ?_ (fun _ => ?_))
   | exact ih0 _ _ _ _ _ _ _ _ _ _
   | exact ih1 _ _ _ _ _ _ _ _ _ _
   | exact examboardlaw34_ints.mono _ _ _
   | exact zeroone_Feasible.mono _ _ _ _ _
   | exact zeroone_Tighten.mono _ _ _ _
   | exact LeO.none _
   | refine LeO.ite ?_ ?_
   | refine LeO.bind ?_ (fun _ => ?_)
set_option maxHeartbeats 8000000 in
set_option maxRecDepth 100000 in
theorem examboardlaw34_ZerooneKeeps.calls (k : Nat) (A0_0 : Option Addr) (c0_0 : Nat) (l0_0 : List Int) (A0_1 : Option Addr) (c0_1 : Nat) (l0_1 : List (S45)) (A0_2 : Option Addr) (c0_2 : Nat) (l0_2 : List Int) (r : Bool) (w : World) (hr0_0 : Kd.C (Kd.int .i64) w A0_0 l0_0.length l0_0) (hc0_0 : l0_0.length ≤ c0_0) (hr0_1 : Kd.C k45 w A0_1 l0_1.length l0_1) (hc0_1 : l0_1.length ≤ c0_1) (hr0_2 : Kd.C (Kd.int .i64) w A0_2 l0_2.length l0_2) (hc0_2 : l0_2.length ≤ c0_2) (h : examboardlaw34_ZerooneKeeps.f k l0_0 l0_1 l0_2 = some r) :
  Calls Try.prog 9 #[.agg #[.slice A0_0 l0_0.length c0_0, .slice A0_1 l0_1.length c0_1, .slice A0_2 l0_2.length c0_2]] w fun e w' => e = .returned (.bool r) ∧ Below w.heap.size w w' := by
 have hu25 := Try.underlying25
 have HR0_0 := Aside0.mk hr0_0
 have HC0_0 := Aside0.mk hc0_0
 clear hr0_0 hc0_0
 have HR0_1 := Aside0.mk hr0_1
 have HC0_1 := Aside0.mk hc0_1
 clear hr0_1 hc0_1
 have HR0_2 := Aside0.mk hr0_2
 have HC0_2 := Aside0.mk hc0_2
 clear hr0_2 hc0_2
 have HB := Aside0.mk (Below.refl w.heap.size w)
 have H : (if (l0_0.length : Int) > 10 then (some true) else ((zeroone_Solve.f l0_0 l0_1 l0_2).bind fun bt398 => ((zeroone_Tighten.f k l0_0 l0_1 l0_2).bind fun bt403 => (if bt403.2.2.2 = 0 then ((examboardlaw34_ints.f k bt403.1 l0_0).bind fun t414 => (if t414 = true then (if (bt403.2.2.1.length : Int) = (l0_2.length : Int) then (examboardlaw34_ZerooneKeeps.j0 k bt398.1 bt398.2.1 bt398.2.2 ((bt403.2.1.length : Int) != (l0_1.length : Int)) l0_0 l0_1 l0_2 bt403.1 bt403.2.1 bt403.2.2.1) else (examboardlaw34_ZerooneKeeps.j0 k bt398.1 bt398.2.1 bt398.2.2 true l0_0 l0_1 l0_2 bt403.1 bt403.2.1 bt403.2.2.1)) else (examboardlaw34_ZerooneKeeps.j0 k bt398.1 bt398.2.1 bt398.2.2 true l0_0 l0_1 l0_2 bt403.1 bt403.2.1 bt403.2.2.1))) else (some (bt398.2.2 == bt403.2.2.2)))))) = some r := h
 clear h
 by_cases c2 : (l0_0.length : Int) > 10
 ·
  rw [if_pos c2] at H
  have c2b0 : decide (10 < (l0_0.length : Int)) = true := decide_eq_true c2
  have c2b1 : decide (10 < l0_0.length) = true := decide_eq_true (by omega)
  clear c2
  obtain rfl := Option.some.inj H
  go_enter Try.func9, Try.ntmps9
  go_wp2_with (first | ((with_reducible refine gate_dst (N := 1) rfl ?_); (try (refine gate_guard (by rfl) ?_; dsimp only)); refine box_event ?hg (N := 1) ?hd (cs := #[.slice A0_0 l0_0.length c0_0, .slice A0_1 l0_1.length c0_1, .slice A0_2 l0_2.length c0_2]) (t := 25) ?hr ?_; (case hd => rfl); (case hg => rfl); (case hr => first | (go_simp; done) | (go_simp; rfl)); intro gb397 hg w3 hbox hb; have n0_ := Aside0.mk (below_step (Bw HB.out) hb); have n1_ := Aside0.mk (hbox); have n2_ := Aside0.mk (Gs hg (Bw HB.out)); have n3_ := Aside0.mk (Gs hg (Bw HB.out)); clear HB; have HB := n0_; have BK397 := n1_; have GW397 := n2_; have GE397 := n3_; clear n0_ n1_ n2_ n3_; clear hb hbox hg; have hcz4_0 : w3.cell? ⟨gb397, 0, none⟩ = some (.slice A0_0 l0_0.length c0_0) := (blk_cell BK397.out 0).trans rfl; have hcz4_1 : w3.cell? ⟨gb397, 1, none⟩ = some (.slice A0_1 l0_1.length c0_1) := (blk_cell BK397.out 1).trans rfl; have hcz4_2 : w3.cell? ⟨gb397, 2, none⟩ = some (.slice A0_2 l0_2.length c0_2) := (blk_cell BK397.out 2).trans rfl; have hfz4_0 := blk_frozen BK397.out 0; have hfz4_1 := blk_frozen BK397.out 1; have hfz4_2 := blk_frozen BK397.out 2))
  repeat (go_quiet (first | ((with_reducible refine gate_dst (N := 1) rfl ?_); (try (refine gate_guard (by rfl) ?_; dsimp only)); refine box_event ?hg (N := 1) ?hd (cs := #[.slice A0_0 l0_0.length c0_0, .slice A0_1 l0_1.length c0_1, .slice A0_2 l0_2.length c0_2]) (t := 25) ?hr ?_; (case hd => rfl); (case hg => rfl); (case hr => first | (go_simp; done) | (go_simp; rfl)); intro gb397 hg w3 hbox hb; have n0_ := Aside0.mk (below_step (Bw HB.out) hb); have n1_ := Aside0.mk (hbox); have n2_ := Aside0.mk (Gs hg (Bw HB.out)); have n3_ := Aside0.mk (Gs hg (Bw HB.out)); clear HB; have HB := n0_; have BK397 := n1_; have GW397 := n2_; have GE397 := n3_; clear n0_ n1_ n2_ n3_; clear hb hbox hg; have hcz4_0 : w3.cell? ⟨gb397, 0, none⟩ = some (.slice A0_0 l0_0.length c0_0) := (blk_cell BK397.out 0).trans rfl; have hcz4_1 : w3.cell? ⟨gb397, 1, none⟩ = some (.slice A0_1 l0_1.length c0_1) := (blk_cell BK397.out 1).trans rfl; have hcz4_2 : w3.cell? ⟨gb397, 2, none⟩ = some (.slice A0_2 l0_2.length c0_2) := (blk_cell BK397.out 2).trans rfl; have hfz4_0 := blk_frozen BK397.out 0; have hfz4_1 := blk_frozen BK397.out 1; have hfz4_2 := blk_frozen BK397.out 2)); try go_wp2_with (first | ((with_reducible refine gate_dst (N := 1) rfl ?_); (try (refine gate_guard (by rfl) ?_; dsimp only)); refine box_event ?hg (N := 1) ?hd (cs := #[.slice A0_0 l0_0.length c0_0, .slice A0_1 l0_1.length c0_1, .slice A0_2 l0_2.length c0_2]) (t := 25) ?hr ?_; (case hd => rfl); (case hg => rfl); (case hr => first | (go_simp; done) | (go_simp; rfl)); intro gb397 hg w3 hbox hb; have n0_ := Aside0.mk (below_step (Bw HB.out) hb); have n1_ := Aside0.mk (hbox); have n2_ := Aside0.mk (Gs hg (Bw HB.out)); have n3_ := Aside0.mk (Gs hg (Bw HB.out)); clear HB; have HB := n0_; have BK397 := n1_; have GW397 := n2_; have GE397 := n3_; clear n0_ n1_ n2_ n3_; clear hb hbox hg; have hcz4_0 : w3.cell? ⟨gb397, 0, none⟩ = some (.slice A0_0 l0_0.length c0_0) := (blk_cell BK397.out 0).trans rfl; have hcz4_1 : w3.cell? ⟨gb397, 1, none⟩ = some (.slice A0_1 l0_1.length c0_1) := (blk_cell BK397.out 1).trans rfl; have hcz4_2 : w3.cell? ⟨gb397, 2, none⟩ = some (.slice A0_2 l0_2.length c0_2) := (blk_cell BK397.out 2).trans rfl; have hfz4_0 := blk_frozen BK397.out 0; have hfz4_1 := blk_frozen BK397.out 1; have hfz4_2 := blk_frozen BK397.out 2)))
  go_ret
  exact ⟨Es, Bw HB.out⟩
 ·
  rw [if_neg c2] at H
  have c2b0 : decide (10 < (l0_0.length : Int)) = false := decide_eq_false c2
  have c2b1 : decide (10 < l0_0.length) = false := decide_eq_false (by omega)
  clear c2
  replace H := Option.bind_eq_some_iff.mp H
  obtain ⟨⟨t398, t401, t402⟩, A50, H⟩ := H
  replace H : ((zeroone_Tighten.f k l0_0 l0_1 l0_2).bind fun bt403 => (if bt403.2.2.2 = 0 then ((examboardlaw34_ints.f k bt403.1 l0_0).bind fun t414 => (if t414 = true then (if (bt403.2.2.1.length : Int) = (l0_2.length : Int) then (examboardlaw34_ZerooneKeeps.j0 k t398 t401 t402 ((bt403.2.1.length : Int) != (l0_1.length : Int)) l0_0 l0_1 l0_2 bt403.1 bt403.2.1 bt403.2.2.1) else (examboardlaw34_ZerooneKeeps.j0 k t398 t401 t402 true l0_0 l0_1 l0_2 bt403.1 bt403.2.1 bt403.2.2.1)) else (examboardlaw34_ZerooneKeeps.j0 k t398 t401 t402 true l0_0 l0_1 l0_2 bt403.1 bt403.2.1 bt403.2.2.1))) else (some (t402 == bt403.2.2.2)))) = some r := H
  have A5 := Aside0.mk A50
  clear A50
  replace H := Option.bind_eq_some_iff.mp H
  obtain ⟨⟨t403, t406, t409, t412⟩, A60, H⟩ := H
  replace H : (if t412 = 0 then ((examboardlaw34_ints.f k t403 l0_0).bind fun t414 => (if t414 = true then (if (t409.length : Int) = (l0_2.length : Int) then (examboardlaw34_ZerooneKeeps.j0 k t398 t401 t402 ((t406.length : Int) != (l0_1.length : Int)) l0_0 l0_1 l0_2 t403 t406 t409) else (examboardlaw34_ZerooneKeeps.j0 k t398 t401 t402 true l0_0 l0_1 l0_2 t403 t406 t409)) else (examboardlaw34_ZerooneKeeps.j0 k t398 t401 t402 true l0_0 l0_1 l0_2 t403 t406 t409))) else (some (t402 == t412))) = some r := H
  have A6 := Aside0.mk A60
  clear A60
  by_cases c7 : t412 = 0
  ·
   rw [if_pos c7] at H
   have c7b0 : (t412 == 0) = true := beq_iff_eq.mpr c7
   have c7b1 : (t412 != 0) = false := bne_eq_false_iff_eq.mpr c7
   clear c7
   have HC8 := Aside0.mk H
   clear H
   go_enter Try.func9, Try.ntmps9
   go_upto_region 7 with (first | ((with_reducible refine gate_dst (N := 1) rfl ?_); (try (refine gate_guard (by rfl) ?_; dsimp only)); refine box_event ?hg (N := 1) ?hd (cs := #[.slice A0_0 l0_0.length c0_0, .slice A0_1 l0_1.length c0_1, .slice A0_2 l0_2.length c0_2]) (t := 25) ?hr ?_; (case hd => rfl); (case hg => rfl); (case hr => first | (go_simp; done) | (go_simp; rfl)); intro gb397 hg w9 hbox hb; have n0_ := Aside0.mk (below_step (Bw HB.out) hb); have n1_ := Aside0.mk (hbox); have n2_ := Aside0.mk (Gs hg (Bw HB.out)); have n3_ := Aside0.mk (Gs hg (Bw HB.out)); clear HB; have HB := n0_; have BK397 := n1_; have GW397 := n2_; have GE397 := n3_; clear n0_ n1_ n2_ n3_; clear hb hbox hg; have hcz10_0 : w9.cell? ⟨gb397, 0, none⟩ = some (.slice A0_0 l0_0.length c0_0) := (blk_cell BK397.out 0).trans rfl; have hcz10_1 : w9.cell? ⟨gb397, 1, none⟩ = some (.slice A0_1 l0_1.length c0_1) := (blk_cell BK397.out 1).trans rfl; have hcz10_2 : w9.cell? ⟨gb397, 2, none⟩ = some (.slice A0_2 l0_2.length c0_2) := (blk_cell BK397.out 2).trans rfl; have hfz10_0 := blk_frozen BK397.out 0; have hfz10_1 := blk_frozen BK397.out 1; have hfz10_2 := blk_frozen BK397.out 2) | (go_at_call 21; (with_reducible refine (zeroone_Solve.calls _ _ l0_0 _ _ l0_1 _ _ l0_2 t398 t401 t402 _ ?side1 ?side2 ?side3 ?side4 ?side5 ?side6 A5.out).mono ?_); (case side1 => exact Ck (Kd.C_below HR0_0.out HB.out)); (case side2 => exact HC0_0.out); (case side3 => exact Ck (Kd.C_below HR0_1.out HB.out)); (case side4 => exact HC0_1.out); (case side5 => exact Ck (Kd.C_below HR0_2.out HB.out)); (case side6 => exact HC0_2.out); rintro e w11 ⟨v399, rfl, ho0, hb⟩; have n0_ := Aside0.mk (Kd.R_lower ho0 (below_size (Bw HB.out))); have n1_ := Aside0.mk (blk_below (g := gb397) (o := .cells #[.slice A0_0 l0_0.length c0_0, .slice A0_1 l0_1.length c0_1, .slice A0_2 l0_2.length c0_2] 25 (0, 0)) (Bk BK397.out) hb); have n2_ := Aside0.mk (below_step (Bw HB.out) hb); clear BK397; clear HB; have HO400 := n0_; have BK397 := n1_; have HB := n2_; clear n0_ n1_ n2_; (try clear hb); (try clear hb2); (try clear hk); (try clear hi); (try clear ho0); have hcz12_0 : w11.cell? ⟨gb397, 0, none⟩ = some (.slice A0_0 l0_0.length c0_0) := (blk_cell BK397.out 0).trans rfl; have hcz12_1 : w11.cell? ⟨gb397, 1, none⟩ = some (.slice A0_1 l0_1.length c0_1) := (blk_cell BK397.out 1).trans rfl; have hcz12_2 : w11.cell? ⟨gb397, 2, none⟩ = some (.slice A0_2 l0_2.length c0_2) := (blk_cell BK397.out 2).trans rfl; have hfz12_0 := blk_frozen BK397.out 0; have hfz12_1 := blk_frozen BK397.out 1; have hfz12_2 := blk_frozen BK397.out 2) | (go_at_call 18; (with_reducible refine (zeroone_Tighten.calls k _ _ l0_0 _ _ l0_1 _ _ l0_2 t403 t406 t409 t412 _ ?side1 ?side2 ?side3 ?side4 ?side5 ?side6 A6.out).mono ?_); (case side1 => exact Ck (Kd.C_below HR0_0.out HB.out)); (case side2 => exact HC0_0.out); (case side3 => exact Ck (Kd.C_below HR0_1.out HB.out)); (case side4 => exact HC0_1.out); (case side5 => exact Ck (Kd.C_below HR0_2.out HB.out)); (case side6 => exact HC0_2.out); rintro e w13 ⟨v404, v407, v410, rfl, ho0, ho1, ho2, hb⟩; have n0_ := Aside0.mk (Kd.R_mono (Kd.R_told (Kd.R_told (Kd.R_old (Rk HO400.out) hb) (Kd.R_base ho0)) (Kd.R_base ho2)) (fun _ h_ => h_.1)); have n1_ := Aside0.mk (Kd.R_lower (Kd.R_new' ho0 (Kd.R_lt (Rk HO400.out))) (below_size (Bw HB.out))); have n2_ := Aside0.mk (Kd.S_lower (Kd.S_new' ho1 (Kd.R_lt (Rk HO400.out))) (below_size (Bw HB.out))); have n3_ := Aside0.mk (Kd.R_lower (Kd.R_new' ho2 (Kd.R_lt (Rk HO400.out))) (below_size (Bw HB.out))); have n4_ := Aside0.mk (blk_below (g := gb397) (o := .cells #[.slice A0_0 l0_0.length c0_0, .slice A0_1 l0_1.length c0_1, .slice A0_2 l0_2.length c0_2] 25 (0, 0)) (Bk BK397.out) hb); have n5_ := Aside0.mk (below_step (Bw HB.out) hb); clear HO400; clear BK397; clear HB; have HO400 := n0_; have HO405 := n1_; have HO408 := n2_; have HO411 := n3_; have BK397 := n4_; have HB := n5_; clear n0_ n1_ n2_ n3_ n4_ n5_; (try clear hb); (try clear hb2); (try clear hk); (try clear hi); (try clear ho0); (try clear ho1); (try clear ho2)) | ((with_reducible refine gate_dst (N := 6) rfl ?_); (try (refine gate_guard (by rfl) ?_; dsimp only)); refine box_event ?hg (N := 6) ?hd (cs := #[.slice none 0 0, .slice none 0 0, .slice none 0 0]) (t := 25) ?hr ?_; (case hd => rfl); (case hg => rfl); (case hr => first | (go_simp; done) | (go_simp; rfl)); intro gb413 hg w14 hbox hb; have n0_ := Aside0.mk (Kd.R_below (Rk HO400.out) hb); have n1_ := Aside0.mk (Kd.R_below (Rk HO405.out) hb); have n2_ := Aside0.mk (Kd.S_below (by (with_reducible repeat (first | apply Kd.S_alloc | apply Kd.S_drewN | apply Kd.S_drew)); exact HO408.out) hb); have n3_ := Aside0.mk (Kd.R_below (Rk HO411.out) hb); have n4_ := Aside0.mk (blk_below (g := gb397) (o := .cells #[.slice A0_0 l0_0.length c0_0, .slice A0_1 l0_1.length c0_1, .slice A0_2 l0_2.length c0_2] 25 (0, 0)) (Bk BK397.out) hb); have n5_ := Aside0.mk (below_step (Bw HB.out) hb); have n6_ := Aside0.mk (hbox); have n7_ := Aside0.mk (Gs hg (Bw HB.out)); have n8_ := Aside0.mk (Gs hg (Bw HB.out)); have n9_ := Aside0.mk ((by rw [hg]; exact Nat.ne_of_lt (blk_lt (g := gb397) (o := .cells #[.slice A0_0 l0_0.length c0_0, .slice A0_1 l0_1.length c0_1, .slice A0_2 l0_2.length c0_2] 25 (0, 0)) (Bk BK397.out)) : gb397 ≠ gb413)); have n10_ := Aside0.mk ((by rw [hg]; exact Nat.ne_of_gt (blk_lt (g := gb397) (o := .cells #[.slice A0_0 l0_0.length c0_0, .slice A0_1 l0_1.length c0_1, .slice A0_2 l0_2.length c0_2] 25 (0, 0)) (Bk BK397.out)) : gb413 ≠ gb397)); clear HO400; clear HO405; clear HO408; clear HO411; clear BK397; clear HB; have HO400 := n0_; have HO405 := n1_; have HO408 := n2_; have HO411 := n3_; have BK397 := n4_; have HB := n5_; have BK413 := n6_; have GW413 := n7_; have GE413 := n8_; have NB397_413 := n9_; have NB413_397 := n10_; clear n0_ n1_ n2_ n3_ n4_ n5_ n6_ n7_ n8_ n9_ n10_; clear hb hbox hg; obtain ⟨Ao15, co15, eo15⟩ := Kd.R_slice HO405.out; subst eo15; have hnb16 := NB413_397.out; have hnc16 := NB397_413.out; have hcz17_0 : w14.cell? ⟨gb413, 0, none⟩ = some (.slice none 0 0) := (blk_cell BK413.out 0).trans rfl; have hcz17_1 : w14.cell? ⟨gb413, 1, none⟩ = some (.slice none 0 0) := (blk_cell BK413.out 1).trans rfl; have hcz17_2 : w14.cell? ⟨gb413, 2, none⟩ = some (.slice none 0 0) := (blk_cell BK413.out 2).trans rfl; have hfz17_0 := blk_frozen BK413.out 0; have hfz17_1 := blk_frozen BK413.out 1; have hfz17_2 := blk_frozen BK413.out 2; obtain ⟨Ao18, co18, eo18⟩ := Kd.S_slice HO408.out; subst eo18; obtain ⟨Ao19, co19, eo19⟩ := Kd.R_slice HO411.out; subst eo19))
   repeat (go_quiet (first | ((with_reducible refine gate_dst (N := 1) rfl ?_); (try (refine gate_guard (by rfl) ?_; dsimp only)); refine box_event ?hg (N := 1) ?hd (cs := #[.slice A0_0 l0_0.length c0_0, .slice A0_1 l0_1.length c0_1, .slice A0_2 l0_2.length c0_2]) (t := 25) ?hr ?_; (case hd => rfl); (case hg => rfl); (case hr => first | (go_simp; done) | (go_simp; rfl)); intro gb397 hg w9 hbox hb; have n0_ := Aside0.mk (below_step (Bw HB.out) hb); have n1_ := Aside0.mk (hbox); have n2_ := Aside0.mk (Gs hg (Bw HB.out)); have n3_ := Aside0.mk (Gs hg (Bw HB.out)); clear HB; have HB := n0_; have BK397 := n1_; have GW397 := n2_; have GE397 := n3_; clear n0_ n1_ n2_ n3_; clear hb hbox hg; have hcz10_0 : w9.cell? ⟨gb397, 0, none⟩ = some (.slice A0_0 l0_0.length c0_0) := (blk_cell BK397.out 0).trans rfl; have hcz10_1 : w9.cell? ⟨gb397, 1, none⟩ = some (.slice A0_1 l0_1.length c0_1) := (blk_cell BK397.out 1).trans rfl; have hcz10_2 : w9.cell? ⟨gb397, 2, none⟩ = some (.slice A0_2 l0_2.length c0_2) := (blk_cell BK397.out 2).trans rfl; have hfz10_0 := blk_frozen BK397.out 0; have hfz10_1 := blk_frozen BK397.out 1; have hfz10_2 := blk_frozen BK397.out 2) | (go_at_call 21; (with_reducible refine (zeroone_Solve.calls _ _ l0_0 _ _ l0_1 _ _ l0_2 t398 t401 t402 _ ?side1 ?side2 ?side3 ?side4 ?side5 ?side6 A5.out).mono ?_); (case side1 => exact Ck (Kd.C_below HR0_0.out HB.out)); (case side2 => exact HC0_0.out); (case side3 => exact Ck (Kd.C_below HR0_1.out HB.out)); (case side4 => exact HC0_1.out); (case side5 => exact Ck (Kd.C_below HR0_2.out HB.out)); (case side6 => exact HC0_2.out); rintro e w11 ⟨v399, rfl, ho0, hb⟩; have n0_ := Aside0.mk (Kd.R_lower ho0 (below_size (Bw HB.out))); have n1_ := Aside0.mk (blk_below (g := gb397) (o := .cells #[.slice A0_0 l0_0.length c0_0, .slice A0_1 l0_1.length c0_1, .slice A0_2 l0_2.length c0_2] 25 (0, 0)) (Bk BK397.out) hb); have n2_ := Aside0.mk (below_step (Bw HB.out) hb); clear BK397; clear HB; have HO400 := n0_; have BK397 := n1_; have HB := n2_; clear n0_ n1_ n2_; (try clear hb); (try clear hb2); (try clear hk); (try clear hi); (try clear ho0); have hcz12_0 : w11.cell? ⟨gb397, 0, none⟩ = some (.slice A0_0 l0_0.length c0_0) := (blk_cell BK397.out 0).trans rfl; have hcz12_1 : w11.cell? ⟨gb397, 1, none⟩ = some (.slice A0_1 l0_1.length c0_1) := (blk_cell BK397.out 1).trans rfl; have hcz12_2 : w11.cell? ⟨gb397, 2, none⟩ = some (.slice A0_2 l0_2.length c0_2) := (blk_cell BK397.out 2).trans rfl; have hfz12_0 := blk_frozen BK397.out 0; have hfz12_1 := blk_frozen BK397.out 1; have hfz12_2 := blk_frozen BK397.out 2) | (go_at_call 18; (with_reducible refine (zeroone_Tighten.calls k _ _ l0_0 _ _ l0_1 _ _ l0_2 t403 t406 t409 t412 _ ?side1 ?side2 ?side3 ?side4 ?side5 ?side6 A6.out).mono ?_); (case side1 => exact Ck (Kd.C_below HR0_0.out HB.out)); (case side2 => exact HC0_0.out); (case side3 => exact Ck (Kd.C_below HR0_1.out HB.out)); (case side4 => exact HC0_1.out); (case side5 => exact Ck (Kd.C_below HR0_2.out HB.out)); (case side6 => exact HC0_2.out); rintro e w13 ⟨v404, v407, v410, rfl, ho0, ho1, ho2, hb⟩; have n0_ := Aside0.mk (Kd.R_mono (Kd.R_told (Kd.R_told (Kd.R_old (Rk HO400.out) hb) (Kd.R_base ho0)) (Kd.R_base ho2)) (fun _ h_ => h_.1)); have n1_ := Aside0.mk (Kd.R_lower (Kd.R_new' ho0 (Kd.R_lt (Rk HO400.out))) (below_size (Bw HB.out))); have n2_ := Aside0.mk (Kd.S_lower (Kd.S_new' ho1 (Kd.R_lt (Rk HO400.out))) (below_size (Bw HB.out))); have n3_ := Aside0.mk (Kd.R_lower (Kd.R_new' ho2 (Kd.R_lt (Rk HO400.out))) (below_size (Bw HB.out))); have n4_ := Aside0.mk (blk_below (g := gb397) (o := .cells #[.slice A0_0 l0_0.length c0_0, .slice A0_1 l0_1.length c0_1, .slice A0_2 l0_2.length c0_2] 25 (0, 0)) (Bk BK397.out) hb); have n5_ := Aside0.mk (below_step (Bw HB.out) hb); clear HO400; clear BK397; clear HB; have HO400 := n0_; have HO405 := n1_; have HO408 := n2_; have HO411 := n3_; have BK397 := n4_; have HB := n5_; clear n0_ n1_ n2_ n3_ n4_ n5_; (try clear hb); (try clear hb2); (try clear hk); (try clear hi); (try clear ho0); (try clear ho1); (try clear ho2)) | ((with_reducible refine gate_dst (N := 6) rfl ?_); (try (refine gate_guard (by rfl) ?_; dsimp only)); refine box_event ?hg (N := 6) ?hd (cs := #[.slice none 0 0, .slice none 0 0, .slice none 0 0]) (t := 25) ?hr ?_; (case hd => rfl); (case hg => rfl); (case hr => first | (go_simp; done) | (go_simp; rfl)); intro gb413 hg w14 hbox hb; have n0_ := Aside0.mk (Kd.R_below (Rk HO400.out) hb); have n1_ := Aside0.mk (Kd.R_below (Rk HO405.out) hb); have n2_ := Aside0.mk (Kd.S_below (by (with_reducible repeat (first | apply Kd.S_alloc | apply Kd.S_drewN | apply Kd.S_drew)); exact HO408.out) hb); have n3_ := Aside0.mk (Kd.R_below (Rk HO411.out) hb); have n4_ := Aside0.mk (blk_below (g := gb397) (o := .cells #[.slice A0_0 l0_0.length c0_0, .slice A0_1 l0_1.length c0_1, .slice A0_2 l0_2.length c0_2] 25 (0, 0)) (Bk BK397.out) hb); have n5_ := Aside0.mk (below_step (Bw HB.out) hb); have n6_ := Aside0.mk (hbox); have n7_ := Aside0.mk (Gs hg (Bw HB.out)); have n8_ := Aside0.mk (Gs hg (Bw HB.out)); have n9_ := Aside0.mk ((by rw [hg]; exact Nat.ne_of_lt (blk_lt (g := gb397) (o := .cells #[.slice A0_0 l0_0.length c0_0, .slice A0_1 l0_1.length c0_1, .slice A0_2 l0_2.length c0_2] 25 (0, 0)) (Bk BK397.out)) : gb397 ≠ gb413)); have n10_ := Aside0.mk ((by rw [hg]; exact Nat.ne_of_gt (blk_lt (g := gb397) (o := .cells #[.slice A0_0 l0_0.length c0_0, .slice A0_1 l0_1.length c0_1, .slice A0_2 l0_2.length c0_2] 25 (0, 0)) (Bk BK397.out)) : gb413 ≠ gb397)); clear HO400; clear HO405; clear HO408; clear HO411; clear BK397; clear HB; have HO400 := n0_; have HO405 := n1_; have HO408 := n2_; have HO411 := n3_; have BK397 := n4_; have HB := n5_; have BK413 := n6_; have GW413 := n7_; have GE413 := n8_; have NB397_413 := n9_; have NB413_397 := n10_; clear n0_ n1_ n2_ n3_ n4_ n5_ n6_ n7_ n8_ n9_ n10_; clear hb hbox hg; obtain ⟨Ao15, co15, eo15⟩ := Kd.R_slice HO405.out; subst eo15; have hnb16 := NB413_397.out; have hnc16 := NB397_413.out; have hcz17_0 : w14.cell? ⟨gb413, 0, none⟩ = some (.slice none 0 0) := (blk_cell BK413.out 0).trans rfl; have hcz17_1 : w14.cell? ⟨gb413, 1, none⟩ = some (.slice none 0 0) := (blk_cell BK413.out 1).trans rfl; have hcz17_2 : w14.cell? ⟨gb413, 2, none⟩ = some (.slice none 0 0) := (blk_cell BK413.out 2).trans rfl; have hfz17_0 := blk_frozen BK413.out 0; have hfz17_1 := blk_frozen BK413.out 1; have hfz17_2 := blk_frozen BK413.out 2; obtain ⟨Ao18, co18, eo18⟩ := Kd.S_slice HO408.out; subst eo18; obtain ⟨Ao19, co19, eo19⟩ := Kd.R_slice HO411.out; subst eo19)); go_upto_region 7 with (first | ((with_reducible refine gate_dst (N := 1) rfl ?_); (try (refine gate_guard (by rfl) ?_; dsimp only)); refine box_event ?hg (N := 1) ?hd (cs := #[.slice A0_0 l0_0.length c0_0, .slice A0_1 l0_1.length c0_1, .slice A0_2 l0_2.length c0_2]) (t := 25) ?hr ?_; (case hd => rfl); (case hg => rfl); (case hr => first | (go_simp; done) | (go_simp; rfl)); intro gb397 hg w9 hbox hb; have n0_ := Aside0.mk (below_step (Bw HB.out) hb); have n1_ := Aside0.mk (hbox); have n2_ := Aside0.mk (Gs hg (Bw HB.out)); have n3_ := Aside0.mk (Gs hg (Bw HB.out)); clear HB; have HB := n0_; have BK397 := n1_; have GW397 := n2_; have GE397 := n3_; clear n0_ n1_ n2_ n3_; clear hb hbox hg; have hcz10_0 : w9.cell? ⟨gb397, 0, none⟩ = some (.slice A0_0 l0_0.length c0_0) := (blk_cell BK397.out 0).trans rfl; have hcz10_1 : w9.cell? ⟨gb397, 1, none⟩ = some (.slice A0_1 l0_1.length c0_1) := (blk_cell BK397.out 1).trans rfl; have hcz10_2 : w9.cell? ⟨gb397, 2, none⟩ = some (.slice A0_2 l0_2.length c0_2) := (blk_cell BK397.out 2).trans rfl; have hfz10_0 := blk_frozen BK397.out 0; have hfz10_1 := blk_frozen BK397.out 1; have hfz10_2 := blk_frozen BK397.out 2) | (go_at_call 21; (with_reducible refine (zeroone_Solve.calls _ _ l0_0 _ _ l0_1 _ _ l0_2 t398 t401 t402 _ ?side1 ?side2 ?side3 ?side4 ?side5 ?side6 A5.out).mono ?_); (case side1 => exact Ck (Kd.C_below HR0_0.out HB.out)); (case side2 => exact HC0_0.out); (case side3 => exact Ck (Kd.C_below HR0_1.out HB.out)); (case side4 => exact HC0_1.out); (case side5 => exact Ck (Kd.C_below HR0_2.out HB.out)); (case side6 => exact HC0_2.out); rintro e w11 ⟨v399, rfl, ho0, hb⟩; have n0_ := Aside0.mk (Kd.R_lower ho0 (below_size (Bw HB.out))); have n1_ := Aside0.mk (blk_below (g := gb397) (o := .cells #[.slice A0_0 l0_0.length c0_0, .slice A0_1 l0_1.length c0_1, .slice A0_2 l0_2.length c0_2] 25 (0, 0)) (Bk BK397.out) hb); have n2_ := Aside0.mk (below_step (Bw HB.out) hb); clear BK397; clear HB; have HO400 := n0_; have BK397 := n1_; have HB := n2_; clear n0_ n1_ n2_; (try clear hb); (try clear hb2); (try clear hk); (try clear hi); (try clear ho0); have hcz12_0 : w11.cell? ⟨gb397, 0, none⟩ = some (.slice A0_0 l0_0.length c0_0) := (blk_cell BK397.out 0).trans rfl; have hcz12_1 : w11.cell? ⟨gb397, 1, none⟩ = some (.slice A0_1 l0_1.length c0_1) := (blk_cell BK397.out 1).trans rfl; have hcz12_2 : w11.cell? ⟨gb397, 2, none⟩ = some (.slice A0_2 l0_2.length c0_2) := (blk_cell BK397.out 2).trans rfl; have hfz12_0 := blk_frozen BK397.out 0; have hfz12_1 := blk_frozen BK397.out 1; have hfz12_2 := blk_frozen BK397.out 2) | (go_at_call 18; (with_reducible refine (zeroone_Tighten.calls k _ _ l0_0 _ _ l0_1 _ _ l0_2 t403 t406 t409 t412 _ ?side1 ?side2 ?side3 ?side4 ?side5 ?side6 A6.out).mono ?_); (case side1 => exact Ck (Kd.C_below HR0_0.out HB.out)); (case side2 => exact HC0_0.out); (case side3 => exact Ck (Kd.C_below HR0_1.out HB.out)); (case side4 => exact HC0_1.out); (case side5 => exact Ck (Kd.C_below HR0_2.out HB.out)); (case side6 => exact HC0_2.out); rintro e w13 ⟨v404, v407, v410, rfl, ho0, ho1, ho2, hb⟩; have n0_ := Aside0.mk (Kd.R_mono (Kd.R_told (Kd.R_told (Kd.R_old (Rk HO400.out) hb) (Kd.R_base ho0)) (Kd.R_base ho2)) (fun _ h_ => h_.1)); have n1_ := Aside0.mk (Kd.R_lower (Kd.R_new' ho0 (Kd.R_lt (Rk HO400.out))) (below_size (Bw HB.out))); have n2_ := Aside0.mk (Kd.S_lower (Kd.S_new' ho1 (Kd.R_lt (Rk HO400.out))) (below_size (Bw HB.out))); have n3_ := Aside0.mk (Kd.R_lower (Kd.R_new' ho2 (Kd.R_lt (Rk HO400.out))) (below_size (Bw HB.out))); have n4_ := Aside0.mk (blk_below (g := gb397) (o := .cells #[.slice A0_0 l0_0.length c0_0, .slice A0_1 l0_1.length c0_1, .slice A0_2 l0_2.length c0_2] 25 (0, 0)) (Bk BK397.out) hb); have n5_ := Aside0.mk (below_step (Bw HB.out) hb); clear HO400; clear BK397; clear HB; have HO400 := n0_; have HO405 := n1_; have HO408 := n2_; have HO411 := n3_; have BK397 := n4_; have HB := n5_; clear n0_ n1_ n2_ n3_ n4_ n5_; (try clear hb); (try clear hb2); (try clear hk); (try clear hi); (try clear ho0); (try clear ho1); (try clear ho2)) | ((with_reducible refine gate_dst (N := 6) rfl ?_); (try (refine gate_guard (by rfl) ?_; dsimp only)); refine box_event ?hg (N := 6) ?hd (cs := #[.slice none 0 0, .slice none 0 0, .slice none 0 0]) (t := 25) ?hr ?_; (case hd => rfl); (case hg => rfl); (case hr => first | (go_simp; done) | (go_simp; rfl)); intro gb413 hg w14 hbox hb; have n0_ := Aside0.mk (Kd.R_below (Rk HO400.out) hb); have n1_ := Aside0.mk (Kd.R_below (Rk HO405.out) hb); have n2_ := Aside0.mk (Kd.S_below (by (with_reducible repeat (first | apply Kd.S_alloc | apply Kd.S_drewN | apply Kd.S_drew)); exact HO408.out) hb); have n3_ := Aside0.mk (Kd.R_below (Rk HO411.out) hb); have n4_ := Aside0.mk (blk_below (g := gb397) (o := .cells #[.slice A0_0 l0_0.length c0_0, .slice A0_1 l0_1.length c0_1, .slice A0_2 l0_2.length c0_2] 25 (0, 0)) (Bk BK397.out) hb); have n5_ := Aside0.mk (below_step (Bw HB.out) hb); have n6_ := Aside0.mk (hbox); have n7_ := Aside0.mk (Gs hg (Bw HB.out)); have n8_ := Aside0.mk (Gs hg (Bw HB.out)); have n9_ := Aside0.mk ((by rw [hg]; exact Nat.ne_of_lt (blk_lt (g := gb397) (o := .cells #[.slice A0_0 l0_0.length c0_0, .slice A0_1 l0_1.length c0_1, .slice A0_2 l0_2.length c0_2] 25 (0, 0)) (Bk BK397.out)) : gb397 ≠ gb413)); have n10_ := Aside0.mk ((by rw [hg]; exact Nat.ne_of_gt (blk_lt (g := gb397) (o := .cells #[.slice A0_0 l0_0.length c0_0, .slice A0_1 l0_1.length c0_1, .slice A0_2 l0_2.length c0_2] 25 (0, 0)) (Bk BK397.out)) : gb413 ≠ gb397)); clear HO400; clear HO405; clear HO408; clear HO411; clear BK397; clear HB; have HO400 := n0_; have HO405 := n1_; have HO408 := n2_; have HO411 := n3_; have BK397 := n4_; have HB := n5_; have BK413 := n6_; have GW413 := n7_; have GE413 := n8_; have NB397_413 := n9_; have NB413_397 := n10_; clear n0_ n1_ n2_ n3_ n4_ n5_ n6_ n7_ n8_ n9_ n10_; clear hb hbox hg; obtain ⟨Ao15, co15, eo15⟩ := Kd.R_slice HO405.out; subst eo15; have hnb16 := NB413_397.out; have hnc16 := NB397_413.out; have hcz17_0 : w14.cell? ⟨gb413, 0, none⟩ = some (.slice none 0 0) := (blk_cell BK413.out 0).trans rfl; have hcz17_1 : w14.cell? ⟨gb413, 1, none⟩ = some (.slice none 0 0) := (blk_cell BK413.out 1).trans rfl; have hcz17_2 : w14.cell? ⟨gb413, 2, none⟩ = some (.slice none 0 0) := (blk_cell BK413.out 2).trans rfl; have hfz17_0 := blk_frozen BK413.out 0; have hfz17_1 := blk_frozen BK413.out 1; have hfz17_2 := blk_frozen BK413.out 2; obtain ⟨Ao18, co18, eo18⟩ := Kd.S_slice HO408.out; subst eo18; obtain ⟨Ao19, co19, eo19⟩ := Kd.R_slice HO411.out; subst eo19)))
   (try simp only [Act.put, List.setIfInBounds_toArray, List.set_cons_zero, List.set_cons_succ])
   go_cut [55] (fun v55 wc => ∃ (kq : Nat) (x55_7 : Bool), v55 = .bool x55_7 ∧ Aside0 (examboardlaw34_ZerooneKeeps.j0 kq t398 t401 t402 x55_7 l0_0 l0_1 l0_2 t403 t406 t409 = some r) ∧ Aside0 (kq ≤ k) ∧ Aside0 (Kd.R (Kd.int .i64) 3 wc w.heap.size (fun k_ => some k_ ≠ ((.slice Ao15 t403.length co15) : Value).ownBlock ∧ some k_ ≠ ((.slice Ao19 t409.length co19) : Value).ownBlock) v399 t398) ∧ Aside0 (Kd.R (Kd.int .i64) 3 wc w.heap.size (fun k_ => some k_ ≠ (v399 : Value).ownBlock ∧ some k_ ≠ ((.slice Ao19 t409.length co19) : Value).ownBlock) (.slice Ao15 t403.length co15) t403) ∧ Aside0 (Kd.S k45 45 wc w.heap.size (fun k_ => some k_ ≠ (v399 : Value).ownBlock ∧ some k_ ≠ ((.slice Ao15 t403.length co15) : Value).ownBlock ∧ some k_ ≠ ((.slice Ao19 t409.length co19) : Value).ownBlock) (.slice Ao18 t406.length co18) t406) ∧ Aside0 (Kd.R (Kd.int .i64) 3 wc w.heap.size (fun k_ => some k_ ≠ (v399 : Value).ownBlock ∧ some k_ ≠ ((.slice Ao15 t403.length co15) : Value).ownBlock) (.slice Ao19 t409.length co19) t409) ∧ Aside0 (wc.heap[gb397]? = some (.cells #[(.slice A0_0 l0_0.length c0_0), (.slice A0_1 l0_1.length c0_1), (.slice A0_2 l0_2.length c0_2)] 25 (0, 0))) ∧ Aside0 (wc.heap[gb413]? = some (.cells #[(.slice Ao15 t403.length co15), (.slice Ao18 t406.length co18), (.slice Ao19 t409.length co19)] 25 (0, 0))) ∧ Aside0 (Below w.heap.size w wc))
   case first =>
    have H := HC8.out
    clear HC8
    replace H := Option.bind_eq_some_iff.mp H
    obtain ⟨t414, A200, H⟩ := H
    replace H : (if t414 = true then (if (t409.length : Int) = (l0_2.length : Int) then (examboardlaw34_ZerooneKeeps.j0 k t398 t401 t402 ((t406.length : Int) != (l0_1.length : Int)) l0_0 l0_1 l0_2 t403 t406 t409) else (examboardlaw34_ZerooneKeeps.j0 k t398 t401 t402 true l0_0 l0_1 l0_2 t403 t406 t409)) else (examboardlaw34_ZerooneKeeps.j0 k t398 t401 t402 true l0_0 l0_1 l0_2 t403 t406 t409)) = some r := H
    have A20 := Aside0.mk A200
    clear A200
    by_cases c21 : t414 = true
    ·
     subst c21
     have H1 : (if (t409.length : Int) = (l0_2.length : Int) then (examboardlaw34_ZerooneKeeps.j0 k t398 t401 t402 ((t406.length : Int) != (l0_1.length : Int)) l0_0 l0_1 l0_2 t403 t406 t409) else (examboardlaw34_ZerooneKeeps.j0 k t398 t401 t402 true l0_0 l0_1 l0_2 t403 t406 t409)) = some r := by rw [if_pos rfl] at H; exact H
     clear H
     have H := H1
     clear H1
     by_cases c22 : (t409.length : Int) = (l0_2.length : Int)
     ·
      rw [if_pos c22] at H
      have c22b0 : ((t409.length : Int) == (l0_2.length : Int)) = true := beq_iff_eq.mpr c22
      have c22b1 : ((t409.length : Int) != (l0_2.length : Int)) = false := bne_eq_false_iff_eq.mpr c22
      have c22b2 : (t409.length == l0_2.length) = true := by first | simpa using c22 | (simp at c22 ⊢; omega)
      clear c22
      (first | rw [c22b0] | (simp only [i64_w, i32_w]; rw [c22b0]) | skip)
      have H' := Aside0.mk H
      clear H
      have hnb23 := NB413_397.out
      have hnc23 := NB397_413.out
      have hcz24_0 : w14.cell? ⟨gb413, 0, none⟩ = some (.slice none 0 0) := (blk_cell BK413.out 0).trans rfl
      have hcz24_1 : w14.cell? ⟨gb413, 1, none⟩ = some (.slice none 0 0) := (blk_cell BK413.out 1).trans rfl
      have hcz24_2 : w14.cell? ⟨gb413, 2, none⟩ = some (.slice none 0 0) := (blk_cell BK413.out 2).trans rfl
      have hfz24_0 := blk_frozen BK413.out 0
      have hfz24_1 := blk_frozen BK413.out 1
      have hfz24_2 := blk_frozen BK413.out 2
      have hcz25_0 : w14.cell? ⟨gb397, 0, none⟩ = some (.slice A0_0 l0_0.length c0_0) := (blk_cell BK397.out 0).trans rfl
      have hcz25_1 : w14.cell? ⟨gb397, 1, none⟩ = some (.slice A0_1 l0_1.length c0_1) := (blk_cell BK397.out 1).trans rfl
      have hcz25_2 : w14.cell? ⟨gb397, 2, none⟩ = some (.slice A0_2 l0_2.length c0_2) := (blk_cell BK397.out 2).trans rfl
      have hfz25_0 := blk_frozen BK397.out 0
      have hfz25_1 := blk_frozen BK397.out 1
      have hfz25_2 := blk_frozen BK397.out 2
      go_wp2_with (first | (go_at_call 23; (with_reducible refine (examboardlaw34_ints.calls k _ _ t403 _ _ l0_0 true _ ?side1 ?side2 ?side3 ?side4 A20.out).mono ?_); (case side1 => refine (Kd.R_reads' (e := 3) (base := w.heap.size) (ok := fun k_ => (some k_ ≠ (.slice Ao19 t409.length co19 : Value).ownBlock ∧ some k_ ≠ (v399 : Value).ownBlock)) (n := t403.length) (c := co15) ?_).2.2; exact (by (with_reducible repeat (first | apply Kd.R_alloc | apply Kd.R_drewN | apply Kd.R_drew)); exact (Kd.R_mono (Kd.R_far (p := ⟨gb413, 2, none⟩) (Kd.R_far (p := ⟨gb413, 1, none⟩) (Kd.R_far (p := ⟨gb413, 0, none⟩) (Kd.R_types HO405.out BK413.out (by decide)) (fun _ hk => hk.2) (.slice Ao15 t403.length co15)) (fun _ hk => hk.2) (.slice Ao18 t406.length co18)) (fun _ hk => hk.2) (.slice Ao19 t409.length co19)) (fun _ h_ => h_.1)))); (case side2 => exact (Kd.R_reads' HO405.out).2.1); (case side3 => exact Kd.C_below HR0_0.out (Bw HB.out)); (case side4 => exact HC0_0.out); rintro e w' ⟨rfl, ⟨nd, rfl⟩⟩; (try first | exact ⟨rfl, _, World.drewN_drewN _ _ _⟩ | exact ⟨rfl, _, Eq.trans (World.drewN_drewN _ _ _) (congrArg (World.drewN _) (Nat.add_assoc _ _ _))⟩)))
      repeat (go_quiet (first | (go_at_call 23; (with_reducible refine (examboardlaw34_ints.calls k _ _ t403 _ _ l0_0 true _ ?side1 ?side2 ?side3 ?side4 A20.out).mono ?_); (case side1 => refine (Kd.R_reads' (e := 3) (base := w.heap.size) (ok := fun k_ => (some k_ ≠ (.slice Ao19 t409.length co19 : Value).ownBlock ∧ some k_ ≠ (v399 : Value).ownBlock)) (n := t403.length) (c := co15) ?_).2.2; exact (by (with_reducible repeat (first | apply Kd.R_alloc | apply Kd.R_drewN | apply Kd.R_drew)); exact (Kd.R_mono (Kd.R_far (p := ⟨gb413, 2, none⟩) (Kd.R_far (p := ⟨gb413, 1, none⟩) (Kd.R_far (p := ⟨gb413, 0, none⟩) (Kd.R_types HO405.out BK413.out (by decide)) (fun _ hk => hk.2) (.slice Ao15 t403.length co15)) (fun _ hk => hk.2) (.slice Ao18 t406.length co18)) (fun _ hk => hk.2) (.slice Ao19 t409.length co19)) (fun _ h_ => h_.1)))); (case side2 => exact (Kd.R_reads' HO405.out).2.1); (case side3 => exact Kd.C_below HR0_0.out (Bw HB.out)); (case side4 => exact HC0_0.out); rintro e w' ⟨rfl, ⟨nd, rfl⟩⟩; (try first | exact ⟨rfl, _, World.drewN_drewN _ _ _⟩ | exact ⟨rfl, _, Eq.trans (World.drewN_drewN _ _ _) (congrArg (World.drewN _) (Nat.add_assoc _ _ _))⟩))); try go_wp2_with (first | (go_at_call 23; (with_reducible refine (examboardlaw34_ints.calls k _ _ t403 _ _ l0_0 true _ ?side1 ?side2 ?side3 ?side4 A20.out).mono ?_); (case side1 => refine (Kd.R_reads' (e := 3) (base := w.heap.size) (ok := fun k_ => (some k_ ≠ (.slice Ao19 t409.length co19 : Value).ownBlock ∧ some k_ ≠ (v399 : Value).ownBlock)) (n := t403.length) (c := co15) ?_).2.2; exact (by (with_reducible repeat (first | apply Kd.R_alloc | apply Kd.R_drewN | apply Kd.R_drew)); exact (Kd.R_mono (Kd.R_far (p := ⟨gb413, 2, none⟩) (Kd.R_far (p := ⟨gb413, 1, none⟩) (Kd.R_far (p := ⟨gb413, 0, none⟩) (Kd.R_types HO405.out BK413.out (by decide)) (fun _ hk => hk.2) (.slice Ao15 t403.length co15)) (fun _ hk => hk.2) (.slice Ao18 t406.length co18)) (fun _ hk => hk.2) (.slice Ao19 t409.length co19)) (fun _ h_ => h_.1)))); (case side2 => exact (Kd.R_reads' HO405.out).2.1); (case side3 => exact Kd.C_below HR0_0.out (Bw HB.out)); (case side4 => exact HC0_0.out); rintro e w' ⟨rfl, ⟨nd, rfl⟩⟩; (try first | exact ⟨rfl, _, World.drewN_drewN _ _ _⟩ | exact ⟨rfl, _, Eq.trans (World.drewN_drewN _ _ _) (congrArg (World.drewN _) (Nat.add_assoc _ _ _))⟩))))
      go_meet
      case rel => exact ⟨_, (((t406.length : Int) != (l0_1.length : Int))), (by first | rfl | (simp; done) | (simp [*]; done)), H', ⟨by first | omega | exact Nat.le_refl _⟩, ⟨by (with_reducible repeat (first | apply Kd.R_alloc | apply Kd.R_drewN | apply Kd.R_drew)); exact Kd.R_mono (Kd.R_far (p := ⟨gb413, 2, none⟩) (Kd.R_far (p := ⟨gb413, 1, none⟩) (Kd.R_far (p := ⟨gb413, 0, none⟩) (Kd.R_types HO400.out BK413.out (by decide)) (fun _ hk => hk.2) (.slice Ao15 t403.length co15)) (fun _ hk => hk.2) (.slice Ao18 t406.length co18)) (fun _ hk => hk.2) (.slice Ao19 t409.length co19)) (fun _ hk => ⟨hk.1.1.2, hk.1.2⟩)⟩, ⟨by (with_reducible repeat (first | apply Kd.R_alloc | apply Kd.R_drewN | apply Kd.R_drew)); exact Kd.R_mono (Kd.R_far (p := ⟨gb413, 2, none⟩) (Kd.R_far (p := ⟨gb413, 1, none⟩) (Kd.R_far (p := ⟨gb413, 0, none⟩) (Kd.R_types HO405.out BK413.out (by decide)) (fun _ hk => hk.2) (.slice Ao15 t403.length co15)) (fun _ hk => hk.2) (.slice Ao18 t406.length co18)) (fun _ hk => hk.2) (.slice Ao19 t409.length co19)) (fun _ hk => ⟨hk.1.2, hk.1.1⟩)⟩, ⟨by (with_reducible repeat (first | apply Kd.S_alloc | apply Kd.S_drewN | apply Kd.S_drew)); exact Kd.S_mono (Kd.S_far (p := ⟨gb413, 2, none⟩) (Kd.S_far (p := ⟨gb413, 1, none⟩) (Kd.S_far (p := ⟨gb413, 0, none⟩) (Kd.S_types HO408.out BK413.out (by decide)) (fun _ hk => hk.2) (.slice Ao15 t403.length co15)) (fun _ hk => hk.2) (.slice Ao18 t406.length co18)) (fun _ hk => hk.2) (.slice Ao19 t409.length co19)) (fun _ hk => ⟨hk.1.2, ⟨hk.1.1.1, hk.1.1.2⟩⟩)⟩, ⟨by (with_reducible repeat (first | apply Kd.R_alloc | apply Kd.R_drewN | apply Kd.R_drew)); exact Kd.R_mono (Kd.R_far (p := ⟨gb413, 2, none⟩) (Kd.R_far (p := ⟨gb413, 1, none⟩) (Kd.R_far (p := ⟨gb413, 0, none⟩) (Kd.R_types HO411.out BK413.out (by decide)) (fun _ hk => hk.2) (.slice Ao15 t403.length co15)) (fun _ hk => hk.2) (.slice Ao18 t406.length co18)) (fun _ hk => hk.2) (.slice Ao19 t409.length co19)) (fun _ hk => ⟨hk.1.2, hk.1.1⟩)⟩, ⟨by (with_reducible repeat (first | refine blk_drewN ?_ _ | refine blk_drew ?_ | refine blk_alloc ?_ _)); refine blk_far ?_ NB397_413.out _; (with_reducible repeat (first | refine blk_drewN ?_ _ | refine blk_drew ?_ | refine blk_alloc ?_ _)); refine blk_far ?_ NB397_413.out _; (with_reducible repeat (first | refine blk_drewN ?_ _ | refine blk_drew ?_ | refine blk_alloc ?_ _)); refine blk_far ?_ NB397_413.out _; (with_reducible repeat (first | refine blk_drewN ?_ _ | refine blk_drew ?_ | refine blk_alloc ?_ _)); exact BK397.out⟩, ⟨by (with_reducible repeat (first | refine blk_drewN ?_ _ | refine blk_drew ?_ | refine blk_alloc ?_ _)); refine blk_put (cs := #[.slice Ao15 t403.length co15, .slice Ao18 t406.length co18, .slice none 0 0]) ?_ 2 _ rfl; (with_reducible repeat (first | refine blk_drewN ?_ _ | refine blk_drew ?_ | refine blk_alloc ?_ _)); refine blk_put (cs := #[.slice Ao15 t403.length co15, .slice none 0 0, .slice none 0 0]) ?_ 1 _ rfl; (with_reducible repeat (first | refine blk_drewN ?_ _ | refine blk_drew ?_ | refine blk_alloc ?_ _)); refine blk_put (cs := #[.slice none 0 0, .slice none 0 0, .slice none 0 0]) ?_ 0 _ rfl; (with_reducible repeat (first | refine blk_drewN ?_ _ | refine blk_drew ?_ | refine blk_alloc ?_ _)); exact BK413.out⟩, ⟨Bw HB.out⟩⟩
     ·
      rw [if_neg c22] at H
      have c22b0 : ((t409.length : Int) == (l0_2.length : Int)) = false := beq_eq_false_iff_ne.mpr c22
      have c22b1 : ((t409.length : Int) != (l0_2.length : Int)) = true := bne_iff_ne.mpr c22
      have c22b2 : (t409.length == l0_2.length) = false := by first | simpa using c22 | (simp at c22 ⊢; omega)
      (first | rw [c22b0] | (simp only [i64_w, i32_w]; rw [c22b0]) | skip)
      have H' := Aside0.mk H
      clear H
      have hnb26 := NB413_397.out
      have hnc26 := NB397_413.out
      have hcz27_0 : w14.cell? ⟨gb413, 0, none⟩ = some (.slice none 0 0) := (blk_cell BK413.out 0).trans rfl
      have hcz27_1 : w14.cell? ⟨gb413, 1, none⟩ = some (.slice none 0 0) := (blk_cell BK413.out 1).trans rfl
      have hcz27_2 : w14.cell? ⟨gb413, 2, none⟩ = some (.slice none 0 0) := (blk_cell BK413.out 2).trans rfl
      have hfz27_0 := blk_frozen BK413.out 0
      have hfz27_1 := blk_frozen BK413.out 1
      have hfz27_2 := blk_frozen BK413.out 2
      have hcz28_0 : w14.cell? ⟨gb397, 0, none⟩ = some (.slice A0_0 l0_0.length c0_0) := (blk_cell BK397.out 0).trans rfl
      have hcz28_1 : w14.cell? ⟨gb397, 1, none⟩ = some (.slice A0_1 l0_1.length c0_1) := (blk_cell BK397.out 1).trans rfl
      have hcz28_2 : w14.cell? ⟨gb397, 2, none⟩ = some (.slice A0_2 l0_2.length c0_2) := (blk_cell BK397.out 2).trans rfl
      have hfz28_0 := blk_frozen BK397.out 0
      have hfz28_1 := blk_frozen BK397.out 1
      have hfz28_2 := blk_frozen BK397.out 2
      go_wp2_with (first | (go_at_call 23; (with_reducible refine (examboardlaw34_ints.calls k _ _ t403 _ _ l0_0 true _ ?side1 ?side2 ?side3 ?side4 A20.out).mono ?_); (case side1 => refine (Kd.R_reads' (e := 3) (base := w.heap.size) (ok := fun k_ => (some k_ ≠ (.slice Ao19 t409.length co19 : Value).ownBlock ∧ some k_ ≠ (v399 : Value).ownBlock)) (n := t403.length) (c := co15) ?_).2.2; exact (by (with_reducible repeat (first | apply Kd.R_alloc | apply Kd.R_drewN | apply Kd.R_drew)); exact (Kd.R_mono (Kd.R_far (p := ⟨gb413, 2, none⟩) (Kd.R_far (p := ⟨gb413, 1, none⟩) (Kd.R_far (p := ⟨gb413, 0, none⟩) (Kd.R_types HO405.out BK413.out (by decide)) (fun _ hk => hk.2) (.slice Ao15 t403.length co15)) (fun _ hk => hk.2) (.slice Ao18 t406.length co18)) (fun _ hk => hk.2) (.slice Ao19 t409.length co19)) (fun _ h_ => h_.1)))); (case side2 => exact (Kd.R_reads' HO405.out).2.1); (case side3 => exact Kd.C_below HR0_0.out (Bw HB.out)); (case side4 => exact HC0_0.out); rintro e w' ⟨rfl, ⟨nd, rfl⟩⟩; (try first | exact ⟨rfl, _, World.drewN_drewN _ _ _⟩ | exact ⟨rfl, _, Eq.trans (World.drewN_drewN _ _ _) (congrArg (World.drewN _) (Nat.add_assoc _ _ _))⟩)))
      repeat (go_quiet (first | (go_at_call 23; (with_reducible refine (examboardlaw34_ints.calls k _ _ t403 _ _ l0_0 true _ ?side1 ?side2 ?side3 ?side4 A20.out).mono ?_); (case side1 => refine (Kd.R_reads' (e := 3) (base := w.heap.size) (ok := fun k_ => (some k_ ≠ (.slice Ao19 t409.length co19 : Value).ownBlock ∧ some k_ ≠ (v399 : Value).ownBlock)) (n := t403.length) (c := co15) ?_).2.2; exact (by (with_reducible repeat (first | apply Kd.R_alloc | apply Kd.R_drewN | apply Kd.R_drew)); exact (Kd.R_mono (Kd.R_far (p := ⟨gb413, 2, none⟩) (Kd.R_far (p := ⟨gb413, 1, none⟩) (Kd.R_far (p := ⟨gb413, 0, none⟩) (Kd.R_types HO405.out BK413.out (by decide)) (fun _ hk => hk.2) (.slice Ao15 t403.length co15)) (fun _ hk => hk.2) (.slice Ao18 t406.length co18)) (fun _ hk => hk.2) (.slice Ao19 t409.length co19)) (fun _ h_ => h_.1)))); (case side2 => exact (Kd.R_reads' HO405.out).2.1); (case side3 => exact Kd.C_below HR0_0.out (Bw HB.out)); (case side4 => exact HC0_0.out); rintro e w' ⟨rfl, ⟨nd, rfl⟩⟩; (try first | exact ⟨rfl, _, World.drewN_drewN _ _ _⟩ | exact ⟨rfl, _, Eq.trans (World.drewN_drewN _ _ _) (congrArg (World.drewN _) (Nat.add_assoc _ _ _))⟩))); try go_wp2_with (first | (go_at_call 23; (with_reducible refine (examboardlaw34_ints.calls k _ _ t403 _ _ l0_0 true _ ?side1 ?side2 ?side3 ?side4 A20.out).mono ?_); (case side1 => refine (Kd.R_reads' (e := 3) (base := w.heap.size) (ok := fun k_ => (some k_ ≠ (.slice Ao19 t409.length co19 : Value).ownBlock ∧ some k_ ≠ (v399 : Value).ownBlock)) (n := t403.length) (c := co15) ?_).2.2; exact (by (with_reducible repeat (first | apply Kd.R_alloc | apply Kd.R_drewN | apply Kd.R_drew)); exact (Kd.R_mono (Kd.R_far (p := ⟨gb413, 2, none⟩) (Kd.R_far (p := ⟨gb413, 1, none⟩) (Kd.R_far (p := ⟨gb413, 0, none⟩) (Kd.R_types HO405.out BK413.out (by decide)) (fun _ hk => hk.2) (.slice Ao15 t403.length co15)) (fun _ hk => hk.2) (.slice Ao18 t406.length co18)) (fun _ hk => hk.2) (.slice Ao19 t409.length co19)) (fun _ h_ => h_.1)))); (case side2 => exact (Kd.R_reads' HO405.out).2.1); (case side3 => exact Kd.C_below HR0_0.out (Bw HB.out)); (case side4 => exact HC0_0.out); rintro e w' ⟨rfl, ⟨nd, rfl⟩⟩; (try first | exact ⟨rfl, _, World.drewN_drewN _ _ _⟩ | exact ⟨rfl, _, Eq.trans (World.drewN_drewN _ _ _) (congrArg (World.drewN _) (Nat.add_assoc _ _ _))⟩))))
      go_meet
      case rel => exact ⟨_, (true), (by first | rfl | (simp; done) | (simp [*]; done)), H', ⟨by first | omega | exact Nat.le_refl _⟩, ⟨by (with_reducible repeat (first | apply Kd.R_alloc | apply Kd.R_drewN | apply Kd.R_drew)); exact Kd.R_mono (Kd.R_far (p := ⟨gb413, 2, none⟩) (Kd.R_far (p := ⟨gb413, 1, none⟩) (Kd.R_far (p := ⟨gb413, 0, none⟩) (Kd.R_types HO400.out BK413.out (by decide)) (fun _ hk => hk.2) (.slice Ao15 t403.length co15)) (fun _ hk => hk.2) (.slice Ao18 t406.length co18)) (fun _ hk => hk.2) (.slice Ao19 t409.length co19)) (fun _ hk => ⟨hk.1.1.2, hk.1.2⟩)⟩, ⟨by (with_reducible repeat (first | apply Kd.R_alloc | apply Kd.R_drewN | apply Kd.R_drew)); exact Kd.R_mono (Kd.R_far (p := ⟨gb413, 2, none⟩) (Kd.R_far (p := ⟨gb413, 1, none⟩) (Kd.R_far (p := ⟨gb413, 0, none⟩) (Kd.R_types HO405.out BK413.out (by decide)) (fun _ hk => hk.2) (.slice Ao15 t403.length co15)) (fun _ hk => hk.2) (.slice Ao18 t406.length co18)) (fun _ hk => hk.2) (.slice Ao19 t409.length co19)) (fun _ hk => ⟨hk.1.2, hk.1.1⟩)⟩, ⟨by (with_reducible repeat (first | apply Kd.S_alloc | apply Kd.S_drewN | apply Kd.S_drew)); exact Kd.S_mono (Kd.S_far (p := ⟨gb413, 2, none⟩) (Kd.S_far (p := ⟨gb413, 1, none⟩) (Kd.S_far (p := ⟨gb413, 0, none⟩) (Kd.S_types HO408.out BK413.out (by decide)) (fun _ hk => hk.2) (.slice Ao15 t403.length co15)) (fun _ hk => hk.2) (.slice Ao18 t406.length co18)) (fun _ hk => hk.2) (.slice Ao19 t409.length co19)) (fun _ hk => ⟨hk.1.2, ⟨hk.1.1.1, hk.1.1.2⟩⟩)⟩, ⟨by (with_reducible repeat (first | apply Kd.R_alloc | apply Kd.R_drewN | apply Kd.R_drew)); exact Kd.R_mono (Kd.R_far (p := ⟨gb413, 2, none⟩) (Kd.R_far (p := ⟨gb413, 1, none⟩) (Kd.R_far (p := ⟨gb413, 0, none⟩) (Kd.R_types HO411.out BK413.out (by decide)) (fun _ hk => hk.2) (.slice Ao15 t403.length co15)) (fun _ hk => hk.2) (.slice Ao18 t406.length co18)) (fun _ hk => hk.2) (.slice Ao19 t409.length co19)) (fun _ hk => ⟨hk.1.2, hk.1.1⟩)⟩, ⟨by (with_reducible repeat (first | refine blk_drewN ?_ _ | refine blk_drew ?_ | refine blk_alloc ?_ _)); refine blk_far ?_ NB397_413.out _; (with_reducible repeat (first | refine blk_drewN ?_ _ | refine blk_drew ?_ | refine blk_alloc ?_ _)); refine blk_far ?_ NB397_413.out _; (with_reducible repeat (first | refine blk_drewN ?_ _ | refine blk_drew ?_ | refine blk_alloc ?_ _)); refine blk_far ?_ NB397_413.out _; (with_reducible repeat (first | refine blk_drewN ?_ _ | refine blk_drew ?_ | refine blk_alloc ?_ _)); exact BK397.out⟩, ⟨by (with_reducible repeat (first | refine blk_drewN ?_ _ | refine blk_drew ?_ | refine blk_alloc ?_ _)); refine blk_put (cs := #[.slice Ao15 t403.length co15, .slice Ao18 t406.length co18, .slice none 0 0]) ?_ 2 _ rfl; (with_reducible repeat (first | refine blk_drewN ?_ _ | refine blk_drew ?_ | refine blk_alloc ?_ _)); refine blk_put (cs := #[.slice Ao15 t403.length co15, .slice none 0 0, .slice none 0 0]) ?_ 1 _ rfl; (with_reducible repeat (first | refine blk_drewN ?_ _ | refine blk_drew ?_ | refine blk_alloc ?_ _)); refine blk_put (cs := #[.slice none 0 0, .slice none 0 0, .slice none 0 0]) ?_ 0 _ rfl; (with_reducible repeat (first | refine blk_drewN ?_ _ | refine blk_drew ?_ | refine blk_alloc ?_ _)); exact BK413.out⟩, ⟨Bw HB.out⟩⟩
    ·
     replace c21 := Bool.eq_false_iff.mpr c21
     subst c21
     have H1 : (examboardlaw34_ZerooneKeeps.j0 k t398 t401 t402 true l0_0 l0_1 l0_2 t403 t406 t409) = some r := by rw [if_neg (show ¬ (false = true) by decide)] at H; exact H
     clear H
     have H := H1
     clear H1
     have H' := Aside0.mk H
     clear H
     have hnb29 := NB413_397.out
     have hnc29 := NB397_413.out
     have hcz30_0 : w14.cell? ⟨gb413, 0, none⟩ = some (.slice none 0 0) := (blk_cell BK413.out 0).trans rfl
     have hcz30_1 : w14.cell? ⟨gb413, 1, none⟩ = some (.slice none 0 0) := (blk_cell BK413.out 1).trans rfl
     have hcz30_2 : w14.cell? ⟨gb413, 2, none⟩ = some (.slice none 0 0) := (blk_cell BK413.out 2).trans rfl
     have hfz30_0 := blk_frozen BK413.out 0
     have hfz30_1 := blk_frozen BK413.out 1
     have hfz30_2 := blk_frozen BK413.out 2
     have hcz31_0 : w14.cell? ⟨gb397, 0, none⟩ = some (.slice A0_0 l0_0.length c0_0) := (blk_cell BK397.out 0).trans rfl
     have hcz31_1 : w14.cell? ⟨gb397, 1, none⟩ = some (.slice A0_1 l0_1.length c0_1) := (blk_cell BK397.out 1).trans rfl
     have hcz31_2 : w14.cell? ⟨gb397, 2, none⟩ = some (.slice A0_2 l0_2.length c0_2) := (blk_cell BK397.out 2).trans rfl
     have hfz31_0 := blk_frozen BK397.out 0
     have hfz31_1 := blk_frozen BK397.out 1
     have hfz31_2 := blk_frozen BK397.out 2
     go_wp2_with (first | (go_at_call 23; (with_reducible refine (examboardlaw34_ints.calls k _ _ t403 _ _ l0_0 false _ ?side1 ?side2 ?side3 ?side4 A20.out).mono ?_); (case side1 => refine (Kd.R_reads' (e := 3) (base := w.heap.size) (ok := fun k_ => (some k_ ≠ (.slice Ao19 t409.length co19 : Value).ownBlock ∧ some k_ ≠ (v399 : Value).ownBlock)) (n := t403.length) (c := co15) ?_).2.2; exact (by (with_reducible repeat (first | apply Kd.R_alloc | apply Kd.R_drewN | apply Kd.R_drew)); exact (Kd.R_mono (Kd.R_far (p := ⟨gb413, 2, none⟩) (Kd.R_far (p := ⟨gb413, 1, none⟩) (Kd.R_far (p := ⟨gb413, 0, none⟩) (Kd.R_types HO405.out BK413.out (by decide)) (fun _ hk => hk.2) (.slice Ao15 t403.length co15)) (fun _ hk => hk.2) (.slice Ao18 t406.length co18)) (fun _ hk => hk.2) (.slice Ao19 t409.length co19)) (fun _ h_ => h_.1)))); (case side2 => exact (Kd.R_reads' HO405.out).2.1); (case side3 => exact Kd.C_below HR0_0.out (Bw HB.out)); (case side4 => exact HC0_0.out); rintro e w' ⟨rfl, ⟨nd, rfl⟩⟩; (try first | exact ⟨rfl, _, World.drewN_drewN _ _ _⟩ | exact ⟨rfl, _, Eq.trans (World.drewN_drewN _ _ _) (congrArg (World.drewN _) (Nat.add_assoc _ _ _))⟩)))
     repeat (go_quiet (first | (go_at_call 23; (with_reducible refine (examboardlaw34_ints.calls k _ _ t403 _ _ l0_0 false _ ?side1 ?side2 ?side3 ?side4 A20.out).mono ?_); (case side1 => refine (Kd.R_reads' (e := 3) (base := w.heap.size) (ok := fun k_ => (some k_ ≠ (.slice Ao19 t409.length co19 : Value).ownBlock ∧ some k_ ≠ (v399 : Value).ownBlock)) (n := t403.length) (c := co15) ?_).2.2; exact (by (with_reducible repeat (first | apply Kd.R_alloc | apply Kd.R_drewN | apply Kd.R_drew)); exact (Kd.R_mono (Kd.R_far (p := ⟨gb413, 2, none⟩) (Kd.R_far (p := ⟨gb413, 1, none⟩) (Kd.R_far (p := ⟨gb413, 0, none⟩) (Kd.R_types HO405.out BK413.out (by decide)) (fun _ hk => hk.2) (.slice Ao15 t403.length co15)) (fun _ hk => hk.2) (.slice Ao18 t406.length co18)) (fun _ hk => hk.2) (.slice Ao19 t409.length co19)) (fun _ h_ => h_.1)))); (case side2 => exact (Kd.R_reads' HO405.out).2.1); (case side3 => exact Kd.C_below HR0_0.out (Bw HB.out)); (case side4 => exact HC0_0.out); rintro e w' ⟨rfl, ⟨nd, rfl⟩⟩; (try first | exact ⟨rfl, _, World.drewN_drewN _ _ _⟩ | exact ⟨rfl, _, Eq.trans (World.drewN_drewN _ _ _) (congrArg (World.drewN _) (Nat.add_assoc _ _ _))⟩))); try go_wp2_with (first | (go_at_call 23; (with_reducible refine (examboardlaw34_ints.calls k _ _ t403 _ _ l0_0 false _ ?side1 ?side2 ?side3 ?side4 A20.out).mono ?_); (case side1 => refine (Kd.R_reads' (e := 3) (base := w.heap.size) (ok := fun k_ => (some k_ ≠ (.slice Ao19 t409.length co19 : Value).ownBlock ∧ some k_ ≠ (v399 : Value).ownBlock)) (n := t403.length) (c := co15) ?_).2.2; exact (by (with_reducible repeat (first | apply Kd.R_alloc | apply Kd.R_drewN | apply Kd.R_drew)); exact (Kd.R_mono (Kd.R_far (p := ⟨gb413, 2, none⟩) (Kd.R_far (p := ⟨gb413, 1, none⟩) (Kd.R_far (p := ⟨gb413, 0, none⟩) (Kd.R_types HO405.out BK413.out (by decide)) (fun _ hk => hk.2) (.slice Ao15 t403.length co15)) (fun _ hk => hk.2) (.slice Ao18 t406.length co18)) (fun _ hk => hk.2) (.slice Ao19 t409.length co19)) (fun _ h_ => h_.1)))); (case side2 => exact (Kd.R_reads' HO405.out).2.1); (case side3 => exact Kd.C_below HR0_0.out (Bw HB.out)); (case side4 => exact HC0_0.out); rintro e w' ⟨rfl, ⟨nd, rfl⟩⟩; (try first | exact ⟨rfl, _, World.drewN_drewN _ _ _⟩ | exact ⟨rfl, _, Eq.trans (World.drewN_drewN _ _ _) (congrArg (World.drewN _) (Nat.add_assoc _ _ _))⟩))))
     go_meet
     case rel => exact ⟨_, (true), (by first | rfl | (simp; done) | (simp [*]; done)), H', ⟨by first | omega | exact Nat.le_refl _⟩, ⟨by (with_reducible repeat (first | apply Kd.R_alloc | apply Kd.R_drewN | apply Kd.R_drew)); exact Kd.R_mono (Kd.R_far (p := ⟨gb413, 2, none⟩) (Kd.R_far (p := ⟨gb413, 1, none⟩) (Kd.R_far (p := ⟨gb413, 0, none⟩) (Kd.R_types HO400.out BK413.out (by decide)) (fun _ hk => hk.2) (.slice Ao15 t403.length co15)) (fun _ hk => hk.2) (.slice Ao18 t406.length co18)) (fun _ hk => hk.2) (.slice Ao19 t409.length co19)) (fun _ hk => ⟨hk.1.1.2, hk.1.2⟩)⟩, ⟨by (with_reducible repeat (first | apply Kd.R_alloc | apply Kd.R_drewN | apply Kd.R_drew)); exact Kd.R_mono (Kd.R_far (p := ⟨gb413, 2, none⟩) (Kd.R_far (p := ⟨gb413, 1, none⟩) (Kd.R_far (p := ⟨gb413, 0, none⟩) (Kd.R_types HO405.out BK413.out (by decide)) (fun _ hk => hk.2) (.slice Ao15 t403.length co15)) (fun _ hk => hk.2) (.slice Ao18 t406.length co18)) (fun _ hk => hk.2) (.slice Ao19 t409.length co19)) (fun _ hk => ⟨hk.1.2, hk.1.1⟩)⟩, ⟨by (with_reducible repeat (first | apply Kd.S_alloc | apply Kd.S_drewN | apply Kd.S_drew)); exact Kd.S_mono (Kd.S_far (p := ⟨gb413, 2, none⟩) (Kd.S_far (p := ⟨gb413, 1, none⟩) (Kd.S_far (p := ⟨gb413, 0, none⟩) (Kd.S_types HO408.out BK413.out (by decide)) (fun _ hk => hk.2) (.slice Ao15 t403.length co15)) (fun _ hk => hk.2) (.slice Ao18 t406.length co18)) (fun _ hk => hk.2) (.slice Ao19 t409.length co19)) (fun _ hk => ⟨hk.1.2, ⟨hk.1.1.1, hk.1.1.2⟩⟩)⟩, ⟨by (with_reducible repeat (first | apply Kd.R_alloc | apply Kd.R_drewN | apply Kd.R_drew)); exact Kd.R_mono (Kd.R_far (p := ⟨gb413, 2, none⟩) (Kd.R_far (p := ⟨gb413, 1, none⟩) (Kd.R_far (p := ⟨gb413, 0, none⟩) (Kd.R_types HO411.out BK413.out (by decide)) (fun _ hk => hk.2) (.slice Ao15 t403.length co15)) (fun _ hk => hk.2) (.slice Ao18 t406.length co18)) (fun _ hk => hk.2) (.slice Ao19 t409.length co19)) (fun _ hk => ⟨hk.1.2, hk.1.1⟩)⟩, ⟨by (with_reducible repeat (first | refine blk_drewN ?_ _ | refine blk_drew ?_ | refine blk_alloc ?_ _)); refine blk_far ?_ NB397_413.out _; (with_reducible repeat (first | refine blk_drewN ?_ _ | refine blk_drew ?_ | refine blk_alloc ?_ _)); refine blk_far ?_ NB397_413.out _; (with_reducible repeat (first | refine blk_drewN ?_ _ | refine blk_drew ?_ | refine blk_alloc ?_ _)); refine blk_far ?_ NB397_413.out _; (with_reducible repeat (first | refine blk_drewN ?_ _ | refine blk_drew ?_ | refine blk_alloc ?_ _)); exact BK397.out⟩, ⟨by (with_reducible repeat (first | refine blk_drewN ?_ _ | refine blk_drew ?_ | refine blk_alloc ?_ _)); refine blk_put (cs := #[.slice Ao15 t403.length co15, .slice Ao18 t406.length co18, .slice none 0 0]) ?_ 2 _ rfl; (with_reducible repeat (first | refine blk_drewN ?_ _ | refine blk_drew ?_ | refine blk_alloc ?_ _)); refine blk_put (cs := #[.slice Ao15 t403.length co15, .slice none 0 0, .slice none 0 0]) ?_ 1 _ rfl; (with_reducible repeat (first | refine blk_drewN ?_ _ | refine blk_drew ?_ | refine blk_alloc ?_ _)); refine blk_put (cs := #[.slice none 0 0, .slice none 0 0, .slice none 0 0]) ?_ 0 _ rfl; (with_reducible repeat (first | refine blk_drewN ?_ _ | refine blk_drew ?_ | refine blk_alloc ?_ _)); exact BK413.out⟩, ⟨Bw HB.out⟩⟩
   case rest =>
    clear HC8
    (try clear c1); (try clear c2); (try clear c2b0); (try clear c2b1); (try clear p2); (try clear c7); (try clear c7b0); (try clear c7b1); (try clear c9); (try clear c16); (try clear c21); (try clear c22); (try clear c22b0); (try clear c22b1); (try clear c22b2); (try clear c23); (try clear c26); (try clear c29); (try clear hcz10_0); (try clear hcz10_1); (try clear hcz10_2); (try clear hcz12_0); (try clear hcz12_1); (try clear hcz12_2); (try clear hcz17_0); (try clear hcz17_1); (try clear hcz17_2); (try clear hcz24_0); (try clear hcz24_1); (try clear hcz24_2); (try clear hcz25_0); (try clear hcz25_1); (try clear hcz25_2); (try clear hcz27_0); (try clear hcz27_1); (try clear hcz27_2); (try clear hcz28_0); (try clear hcz28_1); (try clear hcz28_2); (try clear hcz30_0); (try clear hcz30_1); (try clear hcz30_2); (try clear hcz31_0); (try clear hcz31_1); (try clear hcz31_2); (try clear hcz4_0); (try clear hcz4_1); (try clear hcz4_2); (try clear hfz10_0); (try clear hfz10_1); (try clear hfz10_2); (try clear hfz12_0); (try clear hfz12_1); (try clear hfz12_2); (try clear hfz17_0); (try clear hfz17_1); (try clear hfz17_2); (try clear hfz24_0); (try clear hfz24_1); (try clear hfz24_2); (try clear hfz25_0); (try clear hfz25_1); (try clear hfz25_2); (try clear hfz27_0); (try clear hfz27_1); (try clear hfz27_2); (try clear hfz28_0); (try clear hfz28_1); (try clear hfz28_2); (try clear hfz30_0); (try clear hfz30_1); (try clear hfz30_2); (try clear hfz31_0); (try clear hfz31_1); (try clear hfz31_2); (try clear hfz4_0); (try clear hfz4_1); (try clear hfz4_2)
    obtain ⟨kq, x55_7, rfl, HA, HJ7, HO_3, HO_414000, HO_414001, HO_414002, BK397, BK413, HB⟩ := hcut
    cases kq with
    | zero => exact absurd HA.out (by simp [examboardlaw34_ZerooneKeeps.j0])
    | succ kj7 =>
     have H := HA.out
     clear HA
     simp only [examboardlaw34_ZerooneKeeps.j0] at H
     by_cases c32 : x55_7 = true
     ·
      subst c32
      have H1 : (some false) = some r := by rw [if_pos rfl] at H; exact H
      clear H
      have H := H1
      clear H1
      obtain rfl := Option.some.inj H
      go_wp2
      repeat (go_quiet (fail); try go_wp2)
      go_ret
      exact ⟨Es, Bw HB.out⟩
     ·
      replace c32 := Bool.eq_false_iff.mpr c32
      subst c32
      have H1 : (examboardlaw34_ZerooneKeeps.l0 kj7 t398 t401 t402 0 l0_0 l0_1 l0_2 t403 t406 t409) = some r := by rw [if_neg (show ¬ (false = true) by decide)] at H; exact H
      clear H
      have H := H1
      clear H1
      have H' := Aside0.mk H
      clear H
      go_wp2
      repeat (go_quiet (fail); try go_wp2)
      go_loopg [8] kj7 (fun kq v8 w' => ∃ (x8_2 : Int), v8 = .int .i64 x8_2 ∧ Aside0 (examboardlaw34_ZerooneKeeps.l0 kq t398 t401 t402 x8_2 l0_0 l0_1 l0_2 t403 t406 t409 = some r) ∧ Aside0 (kq ≤ kj7) ∧ Aside0 (Kd.R (Kd.int .i64) 3 w' w.heap.size (fun k_ => some k_ ≠ ((.slice Ao15 t403.length co15) : Value).ownBlock ∧ some k_ ≠ ((.slice Ao19 t409.length co19) : Value).ownBlock) v399 t398) ∧ Aside0 (Kd.R (Kd.int .i64) 3 w' w.heap.size (fun k_ => some k_ ≠ (v399 : Value).ownBlock ∧ some k_ ≠ ((.slice Ao19 t409.length co19) : Value).ownBlock) (.slice Ao15 t403.length co15) t403) ∧ Aside0 (Kd.S k45 45 w' w.heap.size (fun k_ => some k_ ≠ (v399 : Value).ownBlock ∧ some k_ ≠ ((.slice Ao15 t403.length co15) : Value).ownBlock ∧ some k_ ≠ ((.slice Ao19 t409.length co19) : Value).ownBlock) (.slice Ao18 t406.length co18) t406) ∧ Aside0 (Kd.R (Kd.int .i64) 3 w' w.heap.size (fun k_ => some k_ ≠ (v399 : Value).ownBlock ∧ some k_ ≠ ((.slice Ao15 t403.length co15) : Value).ownBlock) (.slice Ao19 t409.length co19) t409) ∧ Aside0 (w'.heap[gb397]? = some (.cells #[(.slice A0_0 l0_0.length c0_0), (.slice A0_1 l0_1.length c0_1), (.slice A0_2 l0_2.length c0_2)] 25 (0, 0))) ∧ Aside0 (w'.heap[gb413]? = some (.cells #[(.slice Ao15 t403.length co15), (.slice Ao18 t406.length co18), (.slice Ao19 t409.length co19)] 25 (0, 0))) ∧ Aside0 (Below w.heap.size w w'))
      case atStart => exact ⟨(0), (by first | rfl | (simp; done) | (simp [*]; done)), H', ⟨Nat.le_refl _⟩, ⟨Rk HO_3.out⟩, ⟨Rk HO_414000.out⟩, ⟨by (with_reducible repeat (first | apply Kd.S_alloc | apply Kd.S_drewN | apply Kd.S_drew)); exact HO_414001.out⟩, ⟨Rk HO_414002.out⟩, ⟨Bk BK397.out⟩, ⟨Bk BK413.out⟩, ⟨Bw HB.out⟩⟩
      case round =>
       clear H'
       (try clear c1); (try clear c2); (try clear c2b0); (try clear c2b1); (try clear p2); (try clear c3); (try clear c7); (try clear c7b0); (try clear c7b1); (try clear c9); (try clear c16); (try clear c21); (try clear c22); (try clear c22b0); (try clear c22b1); (try clear c22b2); (try clear c23); (try clear c26); (try clear c29); (try clear c32); (try clear hcz10_0); (try clear hcz10_1); (try clear hcz10_2); (try clear hcz12_0); (try clear hcz12_1); (try clear hcz12_2); (try clear hcz17_0); (try clear hcz17_1); (try clear hcz17_2); (try clear hcz24_0); (try clear hcz24_1); (try clear hcz24_2); (try clear hcz25_0); (try clear hcz25_1); (try clear hcz25_2); (try clear hcz27_0); (try clear hcz27_1); (try clear hcz27_2); (try clear hcz28_0); (try clear hcz28_1); (try clear hcz28_2); (try clear hcz30_0); (try clear hcz30_1); (try clear hcz30_2); (try clear hcz31_0); (try clear hcz31_1); (try clear hcz31_2); (try clear hcz4_0); (try clear hcz4_1); (try clear hcz4_2); (try clear hfz10_0); (try clear hfz10_1); (try clear hfz10_2); (try clear hfz12_0); (try clear hfz12_1); (try clear hfz12_2); (try clear hfz17_0); (try clear hfz17_1); (try clear hfz17_2); (try clear hfz24_0); (try clear hfz24_1); (try clear hfz24_2); (try clear hfz25_0); (try clear hfz25_1); (try clear hfz25_2); (try clear hfz27_0); (try clear hfz27_1); (try clear hfz27_2); (try clear hfz28_0); (try clear hfz28_1); (try clear hfz28_2); (try clear hfz30_0); (try clear hfz30_1); (try clear hfz30_2); (try clear hfz31_0); (try clear hfz31_1); (try clear hfz31_2); (try clear hfz4_0); (try clear hfz4_1); (try clear hfz4_2); (try clear p2)
       obtain ⟨x8_2, rfl, HA, HK2, HO_3, HO_414000, HO_414001, HO_414002, BK397, BK413, HB⟩ := hrel
       cases gk with
       | zero => exact absurd HA.out (by simp [examboardlaw34_ZerooneKeeps.l0])
       | succ k2 =>
        have H := HA.out
        clear HA
        simp only [examboardlaw34_ZerooneKeeps.l0] at H
        by_cases c33 : x8_2 < (l0_2.length : Int)
        ·
         rw [if_pos c33] at H
         have c33b0 : decide (x8_2 < (l0_2.length : Int)) = true := decide_eq_true c33
         clear c33
         by_cases c34 : 0 ≤ x8_2
         ·
          rw [if_pos c34] at H
          have c34b0 : decide (0 ≤ x8_2) = true := decide_eq_true c34
          clear c34
          by_cases c35 : (rd l0_2 x8_2) = (-1)
          ·
           rw [if_pos c35] at H
           have c35b0 : ((rd l0_2 x8_2) == (-1)) = true := beq_iff_eq.mpr c35
           have c35b1 : ((rd l0_2 x8_2) != (-1)) = false := bne_eq_false_iff_eq.mpr c35
           clear c35
           by_cases c36 : t402 = 0
           ·
            rw [if_pos c36] at H
            have c36b0 : (t402 == 0) = true := beq_iff_eq.mpr c36
            have c36b1 : (t402 != 0) = false := bne_eq_false_iff_eq.mpr c36
            clear c36
            by_cases c37 : x8_2 < (t409.length : Int)
            ·
             rw [if_pos c37] at H
             have c37b0 : decide (x8_2 < (t409.length : Int)) = true := decide_eq_true c37
             clear c37
             by_cases c38 : (rd t409 x8_2) = (-1)
             ·
              rw [if_pos c38] at H
              have c38b0 : ((rd t409 x8_2) == (-1)) = true := beq_iff_eq.mpr c38
              have c38b1 : ((rd t409 x8_2) != (-1)) = false := bne_eq_false_iff_eq.mpr c38
              clear c38
              have H' := Aside0.mk H
              clear H
              have hnb39 := NB397_413.out
              have hnc39 := NB413_397.out
              have hcz40_0 : wr.cell? ⟨gb397, 0, none⟩ = some (.slice A0_0 l0_0.length c0_0) := (blk_cell BK397.out 0).trans rfl
              have hcz40_1 : wr.cell? ⟨gb397, 1, none⟩ = some (.slice A0_1 l0_1.length c0_1) := (blk_cell BK397.out 1).trans rfl
              have hcz40_2 : wr.cell? ⟨gb397, 2, none⟩ = some (.slice A0_2 l0_2.length c0_2) := (blk_cell BK397.out 2).trans rfl
              have hfz40_0 := blk_frozen BK397.out 0
              have hfz40_1 := blk_frozen BK397.out 1
              have hfz40_2 := blk_frozen BK397.out 2
              have p415 : 0 ≤ (x8_2 : Int) := of_decide_eq_true (by first | (with_reducible assumption) | assumption)
              have q415 : x8_2 < (l0_2.length : Int) := of_decide_eq_true (by first | (with_reducible assumption) | assumption)
              obtain ⟨ad415, e415, hx415_0⟩ := Kd.at_int HR0_2.out x8_2 p415 q415
              cases e415
              replace hx415_0 := (HB.out.cell (World.block_lt_of_cell? w _ hx415_0)).trans hx415_0
              replace p415 := eq_true p415
              replace q415 := eq_true q415
              have hcz41_0 : wr.cell? ⟨gb413, 0, none⟩ = some (.slice Ao15 t403.length co15) := (blk_cell BK413.out 0).trans rfl
              have hcz41_1 : wr.cell? ⟨gb413, 1, none⟩ = some (.slice Ao18 t406.length co18) := (blk_cell BK413.out 1).trans rfl
              have hcz41_2 : wr.cell? ⟨gb413, 2, none⟩ = some (.slice Ao19 t409.length co19) := (blk_cell BK413.out 2).trans rfl
              have hfz41_0 := blk_frozen BK413.out 0
              have hfz41_1 := blk_frozen BK413.out 1
              have hfz41_2 := blk_frozen BK413.out 2
              have p416 : 0 ≤ (x8_2 : Int) := of_decide_eq_true (by first | (with_reducible assumption) | assumption)
              have q416 : x8_2 < (t409.length : Int) := of_decide_eq_true (by first | (with_reducible assumption) | assumption)
              obtain ⟨ad416, e416, hx416_0⟩ := Kd.at_int (Kd.R_reads' HO_414002.out).2.2 x8_2 p416 q416
              cases e416
              replace p416 := eq_true p416
              replace q416 := eq_true q416
              go_wp2
              repeat (go_quiet (fail); try go_wp2)
              go_roundg k2
              case measure => have := HJ7.out; have := HK2.out; omega
              case rel => exact ⟨(wrap64 (x8_2 + 1)), (by first | rfl | (simp; done) | (simp [*]; done)), H', ⟨by have := HJ7.out; have := HK2.out; omega⟩, ⟨Rk HO_3.out⟩, ⟨Rk HO_414000.out⟩, ⟨by (with_reducible repeat (first | apply Kd.S_alloc | apply Kd.S_drewN | apply Kd.S_drew)); exact HO_414001.out⟩, ⟨Rk HO_414002.out⟩, ⟨Bk BK397.out⟩, ⟨Bk BK413.out⟩, ⟨Bw HB.out⟩⟩
             ·
              rw [if_neg c38] at H
              have c38b0 : ((rd t409 x8_2) == (-1)) = false := beq_eq_false_iff_ne.mpr c38
              have c38b1 : ((rd t409 x8_2) != (-1)) = true := bne_iff_ne.mpr c38
              by_cases c42 : x8_2 ≥ (t398.length : Int)
              ·
               rw [if_pos c42] at H
               have c42b0 : decide ((t398.length : Int) ≤ x8_2) = true := decide_eq_true c42
               clear c42
               obtain rfl := Option.some.inj H
               have hnb43 := NB397_413.out
               have hnc43 := NB413_397.out
               have hcz44_0 : wr.cell? ⟨gb397, 0, none⟩ = some (.slice A0_0 l0_0.length c0_0) := (blk_cell BK397.out 0).trans rfl
               have hcz44_1 : wr.cell? ⟨gb397, 1, none⟩ = some (.slice A0_1 l0_1.length c0_1) := (blk_cell BK397.out 1).trans rfl
               have hcz44_2 : wr.cell? ⟨gb397, 2, none⟩ = some (.slice A0_2 l0_2.length c0_2) := (blk_cell BK397.out 2).trans rfl
               have hfz44_0 := blk_frozen BK397.out 0
               have hfz44_1 := blk_frozen BK397.out 1
               have hfz44_2 := blk_frozen BK397.out 2
               have p415 : 0 ≤ (x8_2 : Int) := of_decide_eq_true (by first | (with_reducible assumption) | assumption)
               have q415 : x8_2 < (l0_2.length : Int) := of_decide_eq_true (by first | (with_reducible assumption) | assumption)
               obtain ⟨ad415, e415, hx415_0⟩ := Kd.at_int HR0_2.out x8_2 p415 q415
               cases e415
               replace hx415_0 := (HB.out.cell (World.block_lt_of_cell? w _ hx415_0)).trans hx415_0
               replace p415 := eq_true p415
               replace q415 := eq_true q415
               have hcz45_0 : wr.cell? ⟨gb413, 0, none⟩ = some (.slice Ao15 t403.length co15) := (blk_cell BK413.out 0).trans rfl
               have hcz45_1 : wr.cell? ⟨gb413, 1, none⟩ = some (.slice Ao18 t406.length co18) := (blk_cell BK413.out 1).trans rfl
               have hcz45_2 : wr.cell? ⟨gb413, 2, none⟩ = some (.slice Ao19 t409.length co19) := (blk_cell BK413.out 2).trans rfl
               have hfz45_0 := blk_frozen BK413.out 0
               have hfz45_1 := blk_frozen BK413.out 1
               have hfz45_2 := blk_frozen BK413.out 2
               have p416 : 0 ≤ (x8_2 : Int) := of_decide_eq_true (by first | (with_reducible assumption) | assumption)
               have q416 : x8_2 < (t409.length : Int) := of_decide_eq_true (by first | (with_reducible assumption) | assumption)
               obtain ⟨ad416, e416, hx416_0⟩ := Kd.at_int (Kd.R_reads' HO_414002.out).2.2 x8_2 p416 q416
               cases e416
               replace p416 := eq_true p416
               replace q416 := eq_true q416
               obtain ⟨Ao46, co46, eo46⟩ := Kd.R_slice HO_3.out
               subst eo46
               go_wp2
               repeat (go_quiet (fail); try go_wp2)
               go_ret
               exact ⟨Es, Bw HB.out⟩
              ·
               rw [if_neg c42] at H
               have c42b0 : decide ((t398.length : Int) ≤ x8_2) = false := decide_eq_false c42
               clear c42
               by_cases c47 : x8_2 < (t398.length : Int)
               ·
                rw [if_pos c47] at H
                have c47b0 : decide (x8_2 < (t398.length : Int)) = true := decide_eq_true c47
                clear c47
                by_cases c48 : (rd t398 x8_2) = (rd t409 x8_2)
                ·
                 rw [if_pos c48] at H
                 have c48b0 : ((rd t398 x8_2) == (rd t409 x8_2)) = true := beq_iff_eq.mpr c48
                 have c48b1 : ((rd t398 x8_2) != (rd t409 x8_2)) = false := bne_eq_false_iff_eq.mpr c48
                 clear c48
                 have H' := Aside0.mk H
                 clear H
                 have hnb49 := NB397_413.out
                 have hnc49 := NB413_397.out
                 have hcz50_0 : wr.cell? ⟨gb397, 0, none⟩ = some (.slice A0_0 l0_0.length c0_0) := (blk_cell BK397.out 0).trans rfl
                 have hcz50_1 : wr.cell? ⟨gb397, 1, none⟩ = some (.slice A0_1 l0_1.length c0_1) := (blk_cell BK397.out 1).trans rfl
                 have hcz50_2 : wr.cell? ⟨gb397, 2, none⟩ = some (.slice A0_2 l0_2.length c0_2) := (blk_cell BK397.out 2).trans rfl
                 have hfz50_0 := blk_frozen BK397.out 0
                 have hfz50_1 := blk_frozen BK397.out 1
                 have hfz50_2 := blk_frozen BK397.out 2
                 have p415 : 0 ≤ (x8_2 : Int) := of_decide_eq_true (by first | (with_reducible assumption) | assumption)
                 have q415 : x8_2 < (l0_2.length : Int) := of_decide_eq_true (by first | (with_reducible assumption) | assumption)
                 obtain ⟨ad415, e415, hx415_0⟩ := Kd.at_int HR0_2.out x8_2 p415 q415
                 cases e415
                 replace hx415_0 := (HB.out.cell (World.block_lt_of_cell? w _ hx415_0)).trans hx415_0
                 replace p415 := eq_true p415
                 replace q415 := eq_true q415
                 have hcz51_0 : wr.cell? ⟨gb413, 0, none⟩ = some (.slice Ao15 t403.length co15) := (blk_cell BK413.out 0).trans rfl
                 have hcz51_1 : wr.cell? ⟨gb413, 1, none⟩ = some (.slice Ao18 t406.length co18) := (blk_cell BK413.out 1).trans rfl
                 have hcz51_2 : wr.cell? ⟨gb413, 2, none⟩ = some (.slice Ao19 t409.length co19) := (blk_cell BK413.out 2).trans rfl
                 have hfz51_0 := blk_frozen BK413.out 0
                 have hfz51_1 := blk_frozen BK413.out 1
                 have hfz51_2 := blk_frozen BK413.out 2
                 have p416 : 0 ≤ (x8_2 : Int) := of_decide_eq_true (by first | (with_reducible assumption) | assumption)
                 have q416 : x8_2 < (t409.length : Int) := of_decide_eq_true (by first | (with_reducible assumption) | assumption)
                 obtain ⟨ad416, e416, hx416_0⟩ := Kd.at_int (Kd.R_reads' HO_414002.out).2.2 x8_2 p416 q416
                 cases e416
                 replace p416 := eq_true p416
                 replace q416 := eq_true q416
                 obtain ⟨Ao52, co52, eo52⟩ := Kd.R_slice HO_3.out
                 subst eo52
                 have p417 : 0 ≤ (x8_2 : Int) := of_decide_eq_true (by first | (with_reducible assumption) | assumption)
                 have q417 : x8_2 < (t398.length : Int) := of_decide_eq_true (by first | (with_reducible assumption) | assumption)
                 obtain ⟨ad417, e417, hx417_0⟩ := Kd.at_int (Kd.R_reads' HO_3.out).2.2 x8_2 p417 q417
                 cases e417
                 replace p417 := eq_true p417
                 replace q417 := eq_true q417
                 have p418 : 0 ≤ (x8_2 : Int) := of_decide_eq_true (by first | (with_reducible assumption) | assumption)
                 have q418 : x8_2 < (t409.length : Int) := of_decide_eq_true (by first | (with_reducible assumption) | assumption)
                 obtain ⟨ad418, e418, hx418_0⟩ := Kd.at_int (Kd.R_reads' HO_414002.out).2.2 x8_2 p418 q418
                 obtain rfl : ad416 = ad418 := (by injection e418)
                 replace p418 := eq_true p418
                 replace q418 := eq_true q418
                 go_wp2
                 repeat (go_quiet (fail); try go_wp2)
                 go_roundg k2
                 case measure => have := HJ7.out; have := HK2.out; omega
                 case rel => exact ⟨(wrap64 (x8_2 + 1)), (by first | rfl | (simp; done) | (simp [*]; done)), H', ⟨by have := HJ7.out; have := HK2.out; omega⟩, ⟨Rk HO_3.out⟩, ⟨Rk HO_414000.out⟩, ⟨by (with_reducible repeat (first | apply Kd.S_alloc | apply Kd.S_drewN | apply Kd.S_drew)); exact HO_414001.out⟩, ⟨Rk HO_414002.out⟩, ⟨Bk BK397.out⟩, ⟨Bk BK413.out⟩, ⟨Bw HB.out⟩⟩
                ·
                 rw [if_neg c48] at H
                 have c48b0 : ((rd t398 x8_2) == (rd t409 x8_2)) = false := beq_eq_false_iff_ne.mpr c48
                 have c48b1 : ((rd t398 x8_2) != (rd t409 x8_2)) = true := bne_iff_ne.mpr c48
                 obtain rfl := Option.some.inj H
                 have hnb53 := NB397_413.out
                 have hnc53 := NB413_397.out
                 have hcz54_0 : wr.cell? ⟨gb397, 0, none⟩ = some (.slice A0_0 l0_0.length c0_0) := (blk_cell BK397.out 0).trans rfl
                 have hcz54_1 : wr.cell? ⟨gb397, 1, none⟩ = some (.slice A0_1 l0_1.length c0_1) := (blk_cell BK397.out 1).trans rfl
                 have hcz54_2 : wr.cell? ⟨gb397, 2, none⟩ = some (.slice A0_2 l0_2.length c0_2) := (blk_cell BK397.out 2).trans rfl
                 have hfz54_0 := blk_frozen BK397.out 0
                 have hfz54_1 := blk_frozen BK397.out 1
                 have hfz54_2 := blk_frozen BK397.out 2
                 have p415 : 0 ≤ (x8_2 : Int) := of_decide_eq_true (by first | (with_reducible assumption) | assumption)
                 have q415 : x8_2 < (l0_2.length : Int) := of_decide_eq_true (by first | (with_reducible assumption) | assumption)
                 obtain ⟨ad415, e415, hx415_0⟩ := Kd.at_int HR0_2.out x8_2 p415 q415
                 cases e415
                 replace hx415_0 := (HB.out.cell (World.block_lt_of_cell? w _ hx415_0)).trans hx415_0
                 replace p415 := eq_true p415
                 replace q415 := eq_true q415
                 have hcz55_0 : wr.cell? ⟨gb413, 0, none⟩ = some (.slice Ao15 t403.length co15) := (blk_cell BK413.out 0).trans rfl
                 have hcz55_1 : wr.cell? ⟨gb413, 1, none⟩ = some (.slice Ao18 t406.length co18) := (blk_cell BK413.out 1).trans rfl
                 have hcz55_2 : wr.cell? ⟨gb413, 2, none⟩ = some (.slice Ao19 t409.length co19) := (blk_cell BK413.out 2).trans rfl
                 have hfz55_0 := blk_frozen BK413.out 0
                 have hfz55_1 := blk_frozen BK413.out 1
                 have hfz55_2 := blk_frozen BK413.out 2
                 have p416 : 0 ≤ (x8_2 : Int) := of_decide_eq_true (by first | (with_reducible assumption) | assumption)
                 have q416 : x8_2 < (t409.length : Int) := of_decide_eq_true (by first | (with_reducible assumption) | assumption)
                 obtain ⟨ad416, e416, hx416_0⟩ := Kd.at_int (Kd.R_reads' HO_414002.out).2.2 x8_2 p416 q416
                 cases e416
                 replace p416 := eq_true p416
                 replace q416 := eq_true q416
                 obtain ⟨Ao56, co56, eo56⟩ := Kd.R_slice HO_3.out
                 subst eo56
                 have p417 : 0 ≤ (x8_2 : Int) := of_decide_eq_true (by first | (with_reducible assumption) | assumption)
                 have q417 : x8_2 < (t398.length : Int) := of_decide_eq_true (by first | (with_reducible assumption) | assumption)
                 obtain ⟨ad417, e417, hx417_0⟩ := Kd.at_int (Kd.R_reads' HO_3.out).2.2 x8_2 p417 q417
                 cases e417
                 replace p417 := eq_true p417
                 replace q417 := eq_true q417
                 have p418 : 0 ≤ (x8_2 : Int) := of_decide_eq_true (by first | (with_reducible assumption) | assumption)
                 have q418 : x8_2 < (t409.length : Int) := of_decide_eq_true (by first | (with_reducible assumption) | assumption)
                 obtain ⟨ad418, e418, hx418_0⟩ := Kd.at_int (Kd.R_reads' HO_414002.out).2.2 x8_2 p418 q418
                 obtain rfl : ad416 = ad418 := (by injection e418)
                 replace p418 := eq_true p418
                 replace q418 := eq_true q418
                 go_wp2
                 repeat (go_quiet (fail); try go_wp2)
                 go_ret
                 exact ⟨Es, Bw HB.out⟩
               ·
                rw [if_neg c47] at H
                exact absurd H (by simp)
            ·
             rw [if_neg c37] at H
             exact absurd H (by simp)
           ·
            rw [if_neg c36] at H
            have c36b0 : (t402 == 0) = false := beq_eq_false_iff_ne.mpr c36
            have c36b1 : (t402 != 0) = true := bne_iff_ne.mpr c36
            have H' := Aside0.mk H
            clear H
            have hnb57 := NB397_413.out
            have hnc57 := NB413_397.out
            have hcz58_0 : wr.cell? ⟨gb397, 0, none⟩ = some (.slice A0_0 l0_0.length c0_0) := (blk_cell BK397.out 0).trans rfl
            have hcz58_1 : wr.cell? ⟨gb397, 1, none⟩ = some (.slice A0_1 l0_1.length c0_1) := (blk_cell BK397.out 1).trans rfl
            have hcz58_2 : wr.cell? ⟨gb397, 2, none⟩ = some (.slice A0_2 l0_2.length c0_2) := (blk_cell BK397.out 2).trans rfl
            have hfz58_0 := blk_frozen BK397.out 0
            have hfz58_1 := blk_frozen BK397.out 1
            have hfz58_2 := blk_frozen BK397.out 2
            have p415 : 0 ≤ (x8_2 : Int) := of_decide_eq_true (by first | (with_reducible assumption) | assumption)
            have q415 : x8_2 < (l0_2.length : Int) := of_decide_eq_true (by first | (with_reducible assumption) | assumption)
            obtain ⟨ad415, e415, hx415_0⟩ := Kd.at_int HR0_2.out x8_2 p415 q415
            cases e415
            replace hx415_0 := (HB.out.cell (World.block_lt_of_cell? w _ hx415_0)).trans hx415_0
            replace p415 := eq_true p415
            replace q415 := eq_true q415
            go_wp2
            repeat (go_quiet (fail); try go_wp2)
            go_roundg k2
            case measure => have := HJ7.out; have := HK2.out; omega
            case rel => exact ⟨(wrap64 (x8_2 + 1)), (by first | rfl | (simp; done) | (simp [*]; done)), H', ⟨by have := HJ7.out; have := HK2.out; omega⟩, ⟨Rk HO_3.out⟩, ⟨Rk HO_414000.out⟩, ⟨by (with_reducible repeat (first | apply Kd.S_alloc | apply Kd.S_drewN | apply Kd.S_drew)); exact HO_414001.out⟩, ⟨Rk HO_414002.out⟩, ⟨Bk BK397.out⟩, ⟨Bk BK413.out⟩, ⟨Bw HB.out⟩⟩
          ·
           rw [if_neg c35] at H
           have c35b0 : ((rd l0_2 x8_2) == (-1)) = false := beq_eq_false_iff_ne.mpr c35
           have c35b1 : ((rd l0_2 x8_2) != (-1)) = true := bne_iff_ne.mpr c35
           by_cases c59 : x8_2 < (t409.length : Int)
           ·
            rw [if_pos c59] at H
            have c59b0 : decide (x8_2 < (t409.length : Int)) = true := decide_eq_true c59
            clear c59
            by_cases c60 : (rd t409 x8_2) = (rd l0_2 x8_2)
            ·
             rw [if_pos c60] at H
             have c60b0 : ((rd t409 x8_2) == (rd l0_2 x8_2)) = true := beq_iff_eq.mpr c60
             have c60b1 : ((rd t409 x8_2) != (rd l0_2 x8_2)) = false := bne_eq_false_iff_eq.mpr c60
             clear c60
             by_cases c61 : t402 = 0
             ·
              rw [if_pos c61] at H
              have c61b0 : (t402 == 0) = true := beq_iff_eq.mpr c61
              have c61b1 : (t402 != 0) = false := bne_eq_false_iff_eq.mpr c61
              clear c61
              by_cases c62 : (rd t409 x8_2) = (-1)
              ·
               rw [if_pos c62] at H
               have c62b0 : ((rd t409 x8_2) == (-1)) = true := beq_iff_eq.mpr c62
               have c62b1 : ((rd t409 x8_2) != (-1)) = false := bne_eq_false_iff_eq.mpr c62
               clear c62
               have H' := Aside0.mk H
               clear H
               have hnb63 := NB397_413.out
               have hnc63 := NB413_397.out
               have hcz64_0 : wr.cell? ⟨gb397, 0, none⟩ = some (.slice A0_0 l0_0.length c0_0) := (blk_cell BK397.out 0).trans rfl
               have hcz64_1 : wr.cell? ⟨gb397, 1, none⟩ = some (.slice A0_1 l0_1.length c0_1) := (blk_cell BK397.out 1).trans rfl
               have hcz64_2 : wr.cell? ⟨gb397, 2, none⟩ = some (.slice A0_2 l0_2.length c0_2) := (blk_cell BK397.out 2).trans rfl
               have hfz64_0 := blk_frozen BK397.out 0
               have hfz64_1 := blk_frozen BK397.out 1
               have hfz64_2 := blk_frozen BK397.out 2
               have p415 : 0 ≤ (x8_2 : Int) := of_decide_eq_true (by first | (with_reducible assumption) | assumption)
               have q415 : x8_2 < (l0_2.length : Int) := of_decide_eq_true (by first | (with_reducible assumption) | assumption)
               obtain ⟨ad415, e415, hx415_0⟩ := Kd.at_int HR0_2.out x8_2 p415 q415
               cases e415
               replace hx415_0 := (HB.out.cell (World.block_lt_of_cell? w _ hx415_0)).trans hx415_0
               replace p415 := eq_true p415
               replace q415 := eq_true q415
               have hcz65_0 : wr.cell? ⟨gb413, 0, none⟩ = some (.slice Ao15 t403.length co15) := (blk_cell BK413.out 0).trans rfl
               have hcz65_1 : wr.cell? ⟨gb413, 1, none⟩ = some (.slice Ao18 t406.length co18) := (blk_cell BK413.out 1).trans rfl
               have hcz65_2 : wr.cell? ⟨gb413, 2, none⟩ = some (.slice Ao19 t409.length co19) := (blk_cell BK413.out 2).trans rfl
               have hfz65_0 := blk_frozen BK413.out 0
               have hfz65_1 := blk_frozen BK413.out 1
               have hfz65_2 := blk_frozen BK413.out 2
               have p419 : 0 ≤ (x8_2 : Int) := of_decide_eq_true (by first | (with_reducible assumption) | assumption)
               have q419 : x8_2 < (t409.length : Int) := of_decide_eq_true (by first | (with_reducible assumption) | assumption)
               obtain ⟨ad419, e419, hx419_0⟩ := Kd.at_int (Kd.R_reads' HO_414002.out).2.2 x8_2 p419 q419
               cases e419
               replace p419 := eq_true p419
               replace q419 := eq_true q419
               have p420 : 0 ≤ (x8_2 : Int) := of_decide_eq_true (by first | (with_reducible assumption) | assumption)
               have q420 : x8_2 < (l0_2.length : Int) := of_decide_eq_true (by first | (with_reducible assumption) | assumption)
               obtain ⟨ad420, e420, hx420_0⟩ := Kd.at_int HR0_2.out x8_2 p420 q420
               obtain rfl : ad415 = ad420 := (by injection e420)
               replace hx420_0 := (HB.out.cell (World.block_lt_of_cell? w _ hx420_0)).trans hx420_0
               replace p420 := eq_true p420
               replace q420 := eq_true q420
               have p421 : 0 ≤ (x8_2 : Int) := of_decide_eq_true (by first | (with_reducible assumption) | assumption)
               have q421 : x8_2 < (t409.length : Int) := of_decide_eq_true (by first | (with_reducible assumption) | assumption)
               obtain ⟨ad421, e421, hx421_0⟩ := Kd.at_int (Kd.R_reads' HO_414002.out).2.2 x8_2 p421 q421
               obtain rfl : ad419 = ad421 := (by injection e421)
               replace p421 := eq_true p421
               replace q421 := eq_true q421
               go_wp2
               repeat (go_quiet (fail); try go_wp2)
               go_roundg k2
               case measure => have := HJ7.out; have := HK2.out; omega
               case rel => exact ⟨(wrap64 (x8_2 + 1)), (by first | rfl | (simp; done) | (simp [*]; done)), H', ⟨by have := HJ7.out; have := HK2.out; omega⟩, ⟨Rk HO_3.out⟩, ⟨Rk HO_414000.out⟩, ⟨by (with_reducible repeat (first | apply Kd.S_alloc | apply Kd.S_drewN | apply Kd.S_drew)); exact HO_414001.out⟩, ⟨Rk HO_414002.out⟩, ⟨Bk BK397.out⟩, ⟨Bk BK413.out⟩, ⟨Bw HB.out⟩⟩
              ·
               rw [if_neg c62] at H
               have c62b0 : ((rd t409 x8_2) == (-1)) = false := beq_eq_false_iff_ne.mpr c62
               have c62b1 : ((rd t409 x8_2) != (-1)) = true := bne_iff_ne.mpr c62
               by_cases c66 : x8_2 ≥ (t398.length : Int)
               ·
                rw [if_pos c66] at H
                have c66b0 : decide ((t398.length : Int) ≤ x8_2) = true := decide_eq_true c66
                clear c66
                obtain rfl := Option.some.inj H
                have hnb67 := NB397_413.out
                have hnc67 := NB413_397.out
                have hcz68_0 : wr.cell? ⟨gb397, 0, none⟩ = some (.slice A0_0 l0_0.length c0_0) := (blk_cell BK397.out 0).trans rfl
                have hcz68_1 : wr.cell? ⟨gb397, 1, none⟩ = some (.slice A0_1 l0_1.length c0_1) := (blk_cell BK397.out 1).trans rfl
                have hcz68_2 : wr.cell? ⟨gb397, 2, none⟩ = some (.slice A0_2 l0_2.length c0_2) := (blk_cell BK397.out 2).trans rfl
                have hfz68_0 := blk_frozen BK397.out 0
                have hfz68_1 := blk_frozen BK397.out 1
                have hfz68_2 := blk_frozen BK397.out 2
                have p415 : 0 ≤ (x8_2 : Int) := of_decide_eq_true (by first | (with_reducible assumption) | assumption)
                have q415 : x8_2 < (l0_2.length : Int) := of_decide_eq_true (by first | (with_reducible assumption) | assumption)
                obtain ⟨ad415, e415, hx415_0⟩ := Kd.at_int HR0_2.out x8_2 p415 q415
                cases e415
                replace hx415_0 := (HB.out.cell (World.block_lt_of_cell? w _ hx415_0)).trans hx415_0
                replace p415 := eq_true p415
                replace q415 := eq_true q415
                have hcz69_0 : wr.cell? ⟨gb413, 0, none⟩ = some (.slice Ao15 t403.length co15) := (blk_cell BK413.out 0).trans rfl
                have hcz69_1 : wr.cell? ⟨gb413, 1, none⟩ = some (.slice Ao18 t406.length co18) := (blk_cell BK413.out 1).trans rfl
                have hcz69_2 : wr.cell? ⟨gb413, 2, none⟩ = some (.slice Ao19 t409.length co19) := (blk_cell BK413.out 2).trans rfl
                have hfz69_0 := blk_frozen BK413.out 0
                have hfz69_1 := blk_frozen BK413.out 1
                have hfz69_2 := blk_frozen BK413.out 2
                have p419 : 0 ≤ (x8_2 : Int) := of_decide_eq_true (by first | (with_reducible assumption) | assumption)
                have q419 : x8_2 < (t409.length : Int) := of_decide_eq_true (by first | (with_reducible assumption) | assumption)
                obtain ⟨ad419, e419, hx419_0⟩ := Kd.at_int (Kd.R_reads' HO_414002.out).2.2 x8_2 p419 q419
                cases e419
                replace p419 := eq_true p419
                replace q419 := eq_true q419
                have p420 : 0 ≤ (x8_2 : Int) := of_decide_eq_true (by first | (with_reducible assumption) | assumption)
                have q420 : x8_2 < (l0_2.length : Int) := of_decide_eq_true (by first | (with_reducible assumption) | assumption)
                obtain ⟨ad420, e420, hx420_0⟩ := Kd.at_int HR0_2.out x8_2 p420 q420
                obtain rfl : ad415 = ad420 := (by injection e420)
                replace hx420_0 := (HB.out.cell (World.block_lt_of_cell? w _ hx420_0)).trans hx420_0
                replace p420 := eq_true p420
                replace q420 := eq_true q420
                have p421 : 0 ≤ (x8_2 : Int) := of_decide_eq_true (by first | (with_reducible assumption) | assumption)
                have q421 : x8_2 < (t409.length : Int) := of_decide_eq_true (by first | (with_reducible assumption) | assumption)
                obtain ⟨ad421, e421, hx421_0⟩ := Kd.at_int (Kd.R_reads' HO_414002.out).2.2 x8_2 p421 q421
                obtain rfl : ad419 = ad421 := (by injection e421)
                replace p421 := eq_true p421
                replace q421 := eq_true q421
                obtain ⟨Ao70, co70, eo70⟩ := Kd.R_slice HO_3.out
                subst eo70
                go_wp2
                repeat (go_quiet (fail); try go_wp2)
                go_ret
                exact ⟨Es, Bw HB.out⟩
               ·
                rw [if_neg c66] at H
                have c66b0 : decide ((t398.length : Int) ≤ x8_2) = false := decide_eq_false c66
                clear c66
                by_cases c71 : x8_2 < (t398.length : Int)
                ·
                 rw [if_pos c71] at H
                 have c71b0 : decide (x8_2 < (t398.length : Int)) = true := decide_eq_true c71
                 clear c71
                 by_cases c72 : (rd t398 x8_2) = (rd t409 x8_2)
                 ·
                  rw [if_pos c72] at H
                  have c72b0 : ((rd t398 x8_2) == (rd t409 x8_2)) = true := beq_iff_eq.mpr c72
                  have c72b1 : ((rd t398 x8_2) != (rd t409 x8_2)) = false := bne_eq_false_iff_eq.mpr c72
                  clear c72
                  have H' := Aside0.mk H
                  clear H
                  have hnb73 := NB397_413.out
                  have hnc73 := NB413_397.out
                  have hcz74_0 : wr.cell? ⟨gb397, 0, none⟩ = some (.slice A0_0 l0_0.length c0_0) := (blk_cell BK397.out 0).trans rfl
                  have hcz74_1 : wr.cell? ⟨gb397, 1, none⟩ = some (.slice A0_1 l0_1.length c0_1) := (blk_cell BK397.out 1).trans rfl
                  have hcz74_2 : wr.cell? ⟨gb397, 2, none⟩ = some (.slice A0_2 l0_2.length c0_2) := (blk_cell BK397.out 2).trans rfl
                  have hfz74_0 := blk_frozen BK397.out 0
                  have hfz74_1 := blk_frozen BK397.out 1
                  have hfz74_2 := blk_frozen BK397.out 2
                  have p415 : 0 ≤ (x8_2 : Int) := of_decide_eq_true (by first | (with_reducible assumption) | assumption)
                  have q415 : x8_2 < (l0_2.length : Int) := of_decide_eq_true (by first | (with_reducible assumption) | assumption)
                  obtain ⟨ad415, e415, hx415_0⟩ := Kd.at_int HR0_2.out x8_2 p415 q415
                  cases e415
                  replace hx415_0 := (HB.out.cell (World.block_lt_of_cell? w _ hx415_0)).trans hx415_0
                  replace p415 := eq_true p415
                  replace q415 := eq_true q415
                  have hcz75_0 : wr.cell? ⟨gb413, 0, none⟩ = some (.slice Ao15 t403.length co15) := (blk_cell BK413.out 0).trans rfl
                  have hcz75_1 : wr.cell? ⟨gb413, 1, none⟩ = some (.slice Ao18 t406.length co18) := (blk_cell BK413.out 1).trans rfl
                  have hcz75_2 : wr.cell? ⟨gb413, 2, none⟩ = some (.slice Ao19 t409.length co19) := (blk_cell BK413.out 2).trans rfl
                  have hfz75_0 := blk_frozen BK413.out 0
                  have hfz75_1 := blk_frozen BK413.out 1
                  have hfz75_2 := blk_frozen BK413.out 2
                  have p419 : 0 ≤ (x8_2 : Int) := of_decide_eq_true (by first | (with_reducible assumption) | assumption)
                  have q419 : x8_2 < (t409.length : Int) := of_decide_eq_true (by first | (with_reducible assumption) | assumption)
                  obtain ⟨ad419, e419, hx419_0⟩ := Kd.at_int (Kd.R_reads' HO_414002.out).2.2 x8_2 p419 q419
                  cases e419
                  replace p419 := eq_true p419
                  replace q419 := eq_true q419
                  have p420 : 0 ≤ (x8_2 : Int) := of_decide_eq_true (by first | (with_reducible assumption) | assumption)
                  have q420 : x8_2 < (l0_2.length : Int) := of_decide_eq_true (by first | (with_reducible assumption) | assumption)
                  obtain ⟨ad420, e420, hx420_0⟩ := Kd.at_int HR0_2.out x8_2 p420 q420
                  obtain rfl : ad415 = ad420 := (by injection e420)
                  replace hx420_0 := (HB.out.cell (World.block_lt_of_cell? w _ hx420_0)).trans hx420_0
                  replace p420 := eq_true p420
                  replace q420 := eq_true q420
                  have p421 : 0 ≤ (x8_2 : Int) := of_decide_eq_true (by first | (with_reducible assumption) | assumption)
                  have q421 : x8_2 < (t409.length : Int) := of_decide_eq_true (by first | (with_reducible assumption) | assumption)
                  obtain ⟨ad421, e421, hx421_0⟩ := Kd.at_int (Kd.R_reads' HO_414002.out).2.2 x8_2 p421 q421
                  obtain rfl : ad419 = ad421 := (by injection e421)
                  replace p421 := eq_true p421
                  replace q421 := eq_true q421
                  obtain ⟨Ao76, co76, eo76⟩ := Kd.R_slice HO_3.out
                  subst eo76
                  have p422 : 0 ≤ (x8_2 : Int) := of_decide_eq_true (by first | (with_reducible assumption) | assumption)
                  have q422 : x8_2 < (t398.length : Int) := of_decide_eq_true (by first | (with_reducible assumption) | assumption)
                  obtain ⟨ad422, e422, hx422_0⟩ := Kd.at_int (Kd.R_reads' HO_3.out).2.2 x8_2 p422 q422
                  cases e422
                  replace p422 := eq_true p422
                  replace q422 := eq_true q422
                  have p423 : 0 ≤ (x8_2 : Int) := of_decide_eq_true (by first | (with_reducible assumption) | assumption)
                  have q423 : x8_2 < (t409.length : Int) := of_decide_eq_true (by first | (with_reducible assumption) | assumption)
                  obtain ⟨ad423, e423, hx423_0⟩ := Kd.at_int (Kd.R_reads' HO_414002.out).2.2 x8_2 p423 q423
                  obtain rfl : ad419 = ad423 := (by injection e423)
                  replace p423 := eq_true p423
                  replace q423 := eq_true q423
                  go_wp2
                  repeat (go_quiet (fail); try go_wp2)
                  go_roundg k2
                  case measure => have := HJ7.out; have := HK2.out; omega
                  case rel => exact ⟨(wrap64 (x8_2 + 1)), (by first | rfl | (simp; done) | (simp [*]; done)), H', ⟨by have := HJ7.out; have := HK2.out; omega⟩, ⟨Rk HO_3.out⟩, ⟨Rk HO_414000.out⟩, ⟨by (with_reducible repeat (first | apply Kd.S_alloc | apply Kd.S_drewN | apply Kd.S_drew)); exact HO_414001.out⟩, ⟨Rk HO_414002.out⟩, ⟨Bk BK397.out⟩, ⟨Bk BK413.out⟩, ⟨Bw HB.out⟩⟩
                 ·
                  rw [if_neg c72] at H
                  have c72b0 : ((rd t398 x8_2) == (rd t409 x8_2)) = false := beq_eq_false_iff_ne.mpr c72
                  have c72b1 : ((rd t398 x8_2) != (rd t409 x8_2)) = true := bne_iff_ne.mpr c72
                  obtain rfl := Option.some.inj H
                  have hnb77 := NB397_413.out
                  have hnc77 := NB413_397.out
                  have hcz78_0 : wr.cell? ⟨gb397, 0, none⟩ = some (.slice A0_0 l0_0.length c0_0) := (blk_cell BK397.out 0).trans rfl
                  have hcz78_1 : wr.cell? ⟨gb397, 1, none⟩ = some (.slice A0_1 l0_1.length c0_1) := (blk_cell BK397.out 1).trans rfl
                  have hcz78_2 : wr.cell? ⟨gb397, 2, none⟩ = some (.slice A0_2 l0_2.length c0_2) := (blk_cell BK397.out 2).trans rfl
                  have hfz78_0 := blk_frozen BK397.out 0
                  have hfz78_1 := blk_frozen BK397.out 1
                  have hfz78_2 := blk_frozen BK397.out 2
                  have p415 : 0 ≤ (x8_2 : Int) := of_decide_eq_true (by first | (with_reducible assumption) | assumption)
                  have q415 : x8_2 < (l0_2.length : Int) := of_decide_eq_true (by first | (with_reducible assumption) | assumption)
                  obtain ⟨ad415, e415, hx415_0⟩ := Kd.at_int HR0_2.out x8_2 p415 q415
                  cases e415
                  replace hx415_0 := (HB.out.cell (World.block_lt_of_cell? w _ hx415_0)).trans hx415_0
                  replace p415 := eq_true p415
                  replace q415 := eq_true q415
                  have hcz79_0 : wr.cell? ⟨gb413, 0, none⟩ = some (.slice Ao15 t403.length co15) := (blk_cell BK413.out 0).trans rfl
                  have hcz79_1 : wr.cell? ⟨gb413, 1, none⟩ = some (.slice Ao18 t406.length co18) := (blk_cell BK413.out 1).trans rfl
                  have hcz79_2 : wr.cell? ⟨gb413, 2, none⟩ = some (.slice Ao19 t409.length co19) := (blk_cell BK413.out 2).trans rfl
                  have hfz79_0 := blk_frozen BK413.out 0
                  have hfz79_1 := blk_frozen BK413.out 1
                  have hfz79_2 := blk_frozen BK413.out 2
                  have p419 : 0 ≤ (x8_2 : Int) := of_decide_eq_true (by first | (with_reducible assumption) | assumption)
                  have q419 : x8_2 < (t409.length : Int) := of_decide_eq_true (by first | (with_reducible assumption) | assumption)
                  obtain ⟨ad419, e419, hx419_0⟩ := Kd.at_int (Kd.R_reads' HO_414002.out).2.2 x8_2 p419 q419
                  cases e419
                  replace p419 := eq_true p419
                  replace q419 := eq_true q419
                  have p420 : 0 ≤ (x8_2 : Int) := of_decide_eq_true (by first | (with_reducible assumption) | assumption)
                  have q420 : x8_2 < (l0_2.length : Int) := of_decide_eq_true (by first | (with_reducible assumption) | assumption)
                  obtain ⟨ad420, e420, hx420_0⟩ := Kd.at_int HR0_2.out x8_2 p420 q420
                  obtain rfl : ad415 = ad420 := (by injection e420)
                  replace hx420_0 := (HB.out.cell (World.block_lt_of_cell? w _ hx420_0)).trans hx420_0
                  replace p420 := eq_true p420
                  replace q420 := eq_true q420
                  have p421 : 0 ≤ (x8_2 : Int) := of_decide_eq_true (by first | (with_reducible assumption) | assumption)
                  have q421 : x8_2 < (t409.length : Int) := of_decide_eq_true (by first | (with_reducible assumption) | assumption)
                  obtain ⟨ad421, e421, hx421_0⟩ := Kd.at_int (Kd.R_reads' HO_414002.out).2.2 x8_2 p421 q421
                  obtain rfl : ad419 = ad421 := (by injection e421)
                  replace p421 := eq_true p421
                  replace q421 := eq_true q421
                  obtain ⟨Ao80, co80, eo80⟩ := Kd.R_slice HO_3.out
                  subst eo80
                  have p422 : 0 ≤ (x8_2 : Int) := of_decide_eq_true (by first | (with_reducible assumption) | assumption)
                  have q422 : x8_2 < (t398.length : Int) := of_decide_eq_true (by first | (with_reducible assumption) | assumption)
                  obtain ⟨ad422, e422, hx422_0⟩ := Kd.at_int (Kd.R_reads' HO_3.out).2.2 x8_2 p422 q422
                  cases e422
                  replace p422 := eq_true p422
                  replace q422 := eq_true q422
                  have p423 : 0 ≤ (x8_2 : Int) := of_decide_eq_true (by first | (with_reducible assumption) | assumption)
                  have q423 : x8_2 < (t409.length : Int) := of_decide_eq_true (by first | (with_reducible assumption) | assumption)
                  obtain ⟨ad423, e423, hx423_0⟩ := Kd.at_int (Kd.R_reads' HO_414002.out).2.2 x8_2 p423 q423
                  obtain rfl : ad419 = ad423 := (by injection e423)
                  replace p423 := eq_true p423
                  replace q423 := eq_true q423
                  go_wp2
                  repeat (go_quiet (fail); try go_wp2)
                  go_ret
                  exact ⟨Es, Bw HB.out⟩
                ·
                 rw [if_neg c71] at H
                 exact absurd H (by simp)
             ·
              rw [if_neg c61] at H
              have c61b0 : (t402 == 0) = false := beq_eq_false_iff_ne.mpr c61
              have c61b1 : (t402 != 0) = true := bne_iff_ne.mpr c61
              have H' := Aside0.mk H
              clear H
              have hnb81 := NB397_413.out
              have hnc81 := NB413_397.out
              have hcz82_0 : wr.cell? ⟨gb397, 0, none⟩ = some (.slice A0_0 l0_0.length c0_0) := (blk_cell BK397.out 0).trans rfl
              have hcz82_1 : wr.cell? ⟨gb397, 1, none⟩ = some (.slice A0_1 l0_1.length c0_1) := (blk_cell BK397.out 1).trans rfl
              have hcz82_2 : wr.cell? ⟨gb397, 2, none⟩ = some (.slice A0_2 l0_2.length c0_2) := (blk_cell BK397.out 2).trans rfl
              have hfz82_0 := blk_frozen BK397.out 0
              have hfz82_1 := blk_frozen BK397.out 1
              have hfz82_2 := blk_frozen BK397.out 2
              have p415 : 0 ≤ (x8_2 : Int) := of_decide_eq_true (by first | (with_reducible assumption) | assumption)
              have q415 : x8_2 < (l0_2.length : Int) := of_decide_eq_true (by first | (with_reducible assumption) | assumption)
              obtain ⟨ad415, e415, hx415_0⟩ := Kd.at_int HR0_2.out x8_2 p415 q415
              cases e415
              replace hx415_0 := (HB.out.cell (World.block_lt_of_cell? w _ hx415_0)).trans hx415_0
              replace p415 := eq_true p415
              replace q415 := eq_true q415
              have hcz83_0 : wr.cell? ⟨gb413, 0, none⟩ = some (.slice Ao15 t403.length co15) := (blk_cell BK413.out 0).trans rfl
              have hcz83_1 : wr.cell? ⟨gb413, 1, none⟩ = some (.slice Ao18 t406.length co18) := (blk_cell BK413.out 1).trans rfl
              have hcz83_2 : wr.cell? ⟨gb413, 2, none⟩ = some (.slice Ao19 t409.length co19) := (blk_cell BK413.out 2).trans rfl
              have hfz83_0 := blk_frozen BK413.out 0
              have hfz83_1 := blk_frozen BK413.out 1
              have hfz83_2 := blk_frozen BK413.out 2
              have p419 : 0 ≤ (x8_2 : Int) := of_decide_eq_true (by first | (with_reducible assumption) | assumption)
              have q419 : x8_2 < (t409.length : Int) := of_decide_eq_true (by first | (with_reducible assumption) | assumption)
              obtain ⟨ad419, e419, hx419_0⟩ := Kd.at_int (Kd.R_reads' HO_414002.out).2.2 x8_2 p419 q419
              cases e419
              replace p419 := eq_true p419
              replace q419 := eq_true q419
              have p420 : 0 ≤ (x8_2 : Int) := of_decide_eq_true (by first | (with_reducible assumption) | assumption)
              have q420 : x8_2 < (l0_2.length : Int) := of_decide_eq_true (by first | (with_reducible assumption) | assumption)
              obtain ⟨ad420, e420, hx420_0⟩ := Kd.at_int HR0_2.out x8_2 p420 q420
              obtain rfl : ad415 = ad420 := (by injection e420)
              replace hx420_0 := (HB.out.cell (World.block_lt_of_cell? w _ hx420_0)).trans hx420_0
              replace p420 := eq_true p420
              replace q420 := eq_true q420
              go_wp2
              repeat (go_quiet (fail); try go_wp2)
              go_roundg k2
              case measure => have := HJ7.out; have := HK2.out; omega
              case rel => exact ⟨(wrap64 (x8_2 + 1)), (by first | rfl | (simp; done) | (simp [*]; done)), H', ⟨by have := HJ7.out; have := HK2.out; omega⟩, ⟨Rk HO_3.out⟩, ⟨Rk HO_414000.out⟩, ⟨by (with_reducible repeat (first | apply Kd.S_alloc | apply Kd.S_drewN | apply Kd.S_drew)); exact HO_414001.out⟩, ⟨Rk HO_414002.out⟩, ⟨Bk BK397.out⟩, ⟨Bk BK413.out⟩, ⟨Bw HB.out⟩⟩
            ·
             rw [if_neg c60] at H
             have c60b0 : ((rd t409 x8_2) == (rd l0_2 x8_2)) = false := beq_eq_false_iff_ne.mpr c60
             have c60b1 : ((rd t409 x8_2) != (rd l0_2 x8_2)) = true := bne_iff_ne.mpr c60
             obtain rfl := Option.some.inj H
             have hnb84 := NB397_413.out
             have hnc84 := NB413_397.out
             have hcz85_0 : wr.cell? ⟨gb397, 0, none⟩ = some (.slice A0_0 l0_0.length c0_0) := (blk_cell BK397.out 0).trans rfl
             have hcz85_1 : wr.cell? ⟨gb397, 1, none⟩ = some (.slice A0_1 l0_1.length c0_1) := (blk_cell BK397.out 1).trans rfl
             have hcz85_2 : wr.cell? ⟨gb397, 2, none⟩ = some (.slice A0_2 l0_2.length c0_2) := (blk_cell BK397.out 2).trans rfl
             have hfz85_0 := blk_frozen BK397.out 0
             have hfz85_1 := blk_frozen BK397.out 1
             have hfz85_2 := blk_frozen BK397.out 2
             have p415 : 0 ≤ (x8_2 : Int) := of_decide_eq_true (by first | (with_reducible assumption) | assumption)
             have q415 : x8_2 < (l0_2.length : Int) := of_decide_eq_true (by first | (with_reducible assumption) | assumption)
             obtain ⟨ad415, e415, hx415_0⟩ := Kd.at_int HR0_2.out x8_2 p415 q415
             cases e415
             replace hx415_0 := (HB.out.cell (World.block_lt_of_cell? w _ hx415_0)).trans hx415_0
             replace p415 := eq_true p415
             replace q415 := eq_true q415
             have hcz86_0 : wr.cell? ⟨gb413, 0, none⟩ = some (.slice Ao15 t403.length co15) := (blk_cell BK413.out 0).trans rfl
             have hcz86_1 : wr.cell? ⟨gb413, 1, none⟩ = some (.slice Ao18 t406.length co18) := (blk_cell BK413.out 1).trans rfl
             have hcz86_2 : wr.cell? ⟨gb413, 2, none⟩ = some (.slice Ao19 t409.length co19) := (blk_cell BK413.out 2).trans rfl
             have hfz86_0 := blk_frozen BK413.out 0
             have hfz86_1 := blk_frozen BK413.out 1
             have hfz86_2 := blk_frozen BK413.out 2
             have p419 : 0 ≤ (x8_2 : Int) := of_decide_eq_true (by first | (with_reducible assumption) | assumption)
             have q419 : x8_2 < (t409.length : Int) := of_decide_eq_true (by first | (with_reducible assumption) | assumption)
             obtain ⟨ad419, e419, hx419_0⟩ := Kd.at_int (Kd.R_reads' HO_414002.out).2.2 x8_2 p419 q419
             cases e419
             replace p419 := eq_true p419
             replace q419 := eq_true q419
             have p420 : 0 ≤ (x8_2 : Int) := of_decide_eq_true (by first | (with_reducible assumption) | assumption)
             have q420 : x8_2 < (l0_2.length : Int) := of_decide_eq_true (by first | (with_reducible assumption) | assumption)
             obtain ⟨ad420, e420, hx420_0⟩ := Kd.at_int HR0_2.out x8_2 p420 q420
             obtain rfl : ad415 = ad420 := (by injection e420)
             replace hx420_0 := (HB.out.cell (World.block_lt_of_cell? w _ hx420_0)).trans hx420_0
             replace p420 := eq_true p420
             replace q420 := eq_true q420
             go_wp2
             repeat (go_quiet (fail); try go_wp2)
             go_ret
             exact ⟨Es, Bw HB.out⟩
           ·
            rw [if_neg c59] at H
            exact absurd H (by simp)
         ·
          rw [if_neg c34] at H
          exact absurd H (by simp)
        ·
         rw [if_neg c33] at H
         have c33b0 : decide (x8_2 < (l0_2.length : Int)) = false := decide_eq_false c33
         clear c33
         replace H := Option.bind_eq_some_iff.mp H
         obtain ⟨⟨t424, t427, t428⟩, A870, H⟩ := H
         replace H : (if t402 = 0 then ((zeroone_Feasible.f k2 l0_0 l0_1 l0_2 t398).bind fun t429 => (if t429 = true then (if t402 = t428 then (if t401 = t427 then ((examboardlaw34_ints.f k2 t398 t424).bind fun t430 => (some t430)) else (some false)) else (some false)) else (some false))) else (if t402 = t428 then (if t401 = t427 then ((examboardlaw34_ints.f k2 t398 t424).bind fun t431 => (some t431)) else (some false)) else (some false))) = some r := H
         have A87 := Aside0.mk A870
         clear A870
         by_cases c88 : t402 = 0
         ·
          rw [if_pos c88] at H
          have c88b0 : (t402 == 0) = true := beq_iff_eq.mpr c88
          have c88b1 : (t402 != 0) = false := bne_eq_false_iff_eq.mpr c88
          clear c88
          replace H := Option.bind_eq_some_iff.mp H
          obtain ⟨t429, A890, H⟩ := H
          replace H : (if t429 = true then (if t402 = t428 then (if t401 = t427 then ((examboardlaw34_ints.f k2 t398 t424).bind fun t430 => (some t430)) else (some false)) else (some false)) else (some false)) = some r := H
          have A89 := Aside0.mk A890
          clear A890
          by_cases c90 : t429 = true
          ·
           subst c90
           have H1 : (if t402 = t428 then (if t401 = t427 then ((examboardlaw34_ints.f k2 t398 t424).bind fun t430 => (some t430)) else (some false)) else (some false)) = some r := by rw [if_pos rfl] at H; exact H
           clear H
           have H := H1
           clear H1
           by_cases c91 : t402 = t428
           ·
            rw [if_pos c91] at H
            have c91b0 : (t402 == t428) = true := beq_iff_eq.mpr c91
            have c91b1 : (t402 != t428) = false := bne_eq_false_iff_eq.mpr c91
            clear c91
            by_cases c92 : t401 = t427
            ·
             rw [if_pos c92] at H
             have c92b0 : (t401 == t427) = true := beq_iff_eq.mpr c92
             have c92b1 : (t401 != t427) = false := bne_eq_false_iff_eq.mpr c92
             clear c92
             replace H := Option.bind_eq_some_iff.mp H
             obtain ⟨t430, A930, H⟩ := H
             replace H : (some t430) = some r := H
             have A93 := Aside0.mk A930
             clear A930
             obtain rfl := Option.some.inj H
             have hnb94 := NB397_413.out
             have hnc94 := NB413_397.out
             have hcz95_0 : wr.cell? ⟨gb397, 0, none⟩ = some (.slice A0_0 l0_0.length c0_0) := (blk_cell BK397.out 0).trans rfl
             have hcz95_1 : wr.cell? ⟨gb397, 1, none⟩ = some (.slice A0_1 l0_1.length c0_1) := (blk_cell BK397.out 1).trans rfl
             have hcz95_2 : wr.cell? ⟨gb397, 2, none⟩ = some (.slice A0_2 l0_2.length c0_2) := (blk_cell BK397.out 2).trans rfl
             have hfz95_0 := blk_frozen BK397.out 0
             have hfz95_1 := blk_frozen BK397.out 1
             have hfz95_2 := blk_frozen BK397.out 2
             have hcz96_0 : wr.cell? ⟨gb413, 0, none⟩ = some (.slice Ao15 t403.length co15) := (blk_cell BK413.out 0).trans rfl
             have hcz96_1 : wr.cell? ⟨gb413, 1, none⟩ = some (.slice Ao18 t406.length co18) := (blk_cell BK413.out 1).trans rfl
             have hcz96_2 : wr.cell? ⟨gb413, 2, none⟩ = some (.slice Ao19 t409.length co19) := (blk_cell BK413.out 2).trans rfl
             have hfz96_0 := blk_frozen BK413.out 0
             have hfz96_1 := blk_frozen BK413.out 1
             have hfz96_2 := blk_frozen BK413.out 2
             go_wp2_with (first | (go_at_call 21; (with_reducible refine (zeroone_Solve.calls _ _ t403 _ _ t406 _ _ t409 t424 t427 t428 _ ?side1 ?side2 ?side3 ?side4 ?side5 ?side6 A87.out).mono ?_); (case side1 => exact Ck (Kd.R_reads' HO_414000.out).2.2); (case side2 => exact (Kd.R_reads' HO_414000.out).2.1); (case side3 => exact Ck (Kd.S_reads' HO_414001.out).2.2); (case side4 => exact (Kd.S_reads' HO_414001.out).2.1); (case side5 => exact Ck (Kd.R_reads' HO_414002.out).2.2); (case side6 => exact (Kd.R_reads' HO_414002.out).2.1); rintro e w97 ⟨v425, rfl, ho0, hb⟩; have n0_ := Aside0.mk (Kd.R_elder' (Rk HO_3.out) (Kd.R_base ho0) hb); have n1_ := Aside0.mk (Kd.R_elder' (Rk HO_414000.out) (Kd.R_base ho0) hb); have n2_ := Aside0.mk (Kd.S_elder' (by (with_reducible repeat (first | apply Kd.S_alloc | apply Kd.S_drewN | apply Kd.S_drew)); exact HO_414001.out) (Kd.R_base ho0) hb); have n3_ := Aside0.mk (Kd.R_elder' (Rk HO_414002.out) (Kd.R_base ho0) hb); have n4_ := Aside0.mk (Kd.R_lower (Kd.R_new' (Kd.R_new' (Kd.R_new' ho0 (Kd.R_lt (Rk HO_3.out))) (Kd.R_lt (Rk HO_414000.out))) (Kd.R_lt (Rk HO_414002.out))) (below_size (Bw HB.out))); have n5_ := Aside0.mk (blk_below (g := gb397) (o := .cells #[.slice A0_0 l0_0.length c0_0, .slice A0_1 l0_1.length c0_1, .slice A0_2 l0_2.length c0_2] 25 (0, 0)) (Bk BK397.out) hb); have n6_ := Aside0.mk (blk_below (g := gb413) (o := .cells #[.slice Ao15 t403.length co15, .slice Ao18 t406.length co18, .slice Ao19 t409.length co19] 25 (0, 0)) (Bk BK413.out) hb); have n7_ := Aside0.mk (below_step (Bw HB.out) hb); clear HO_3; clear HO_414000; clear HO_414001; clear HO_414002; clear BK397; clear BK413; clear HB; have HO_3 := n0_; have HO_414000 := n1_; have HO_414001 := n2_; have HO_414002 := n3_; have HO426 := n4_; have BK397 := n5_; have BK413 := n6_; have HB := n7_; clear n0_ n1_ n2_ n3_ n4_ n5_ n6_ n7_; (try clear hb); (try clear hb2); (try clear hk); (try clear hi); (try clear ho0); have hcz98_0 : w97.cell? ⟨gb397, 0, none⟩ = some (.slice A0_0 l0_0.length c0_0) := (blk_cell BK397.out 0).trans rfl; have hcz98_1 : w97.cell? ⟨gb397, 1, none⟩ = some (.slice A0_1 l0_1.length c0_1) := (blk_cell BK397.out 1).trans rfl; have hcz98_2 : w97.cell? ⟨gb397, 2, none⟩ = some (.slice A0_2 l0_2.length c0_2) := (blk_cell BK397.out 2).trans rfl; have hfz98_0 := blk_frozen BK397.out 0; have hfz98_1 := blk_frozen BK397.out 1; have hfz98_2 := blk_frozen BK397.out 2; obtain ⟨Ao99, co99, eo99⟩ := Kd.R_slice HO_3.out; subst eo99) | (go_at_call 16; (with_reducible refine (zeroone_Feasible.calls k2 _ _ l0_0 _ _ l0_1 _ _ l0_2 _ _ t398 true _ ?side1 ?side2 ?side3 ?side4 ?side5 ?side6 ?side7 ?side8 A89.out).mono ?_); (case side1 => exact Ck (Kd.C_below HR0_0.out HB.out)); (case side2 => exact HC0_0.out); (case side3 => exact Ck (Kd.C_below HR0_1.out HB.out)); (case side4 => exact HC0_1.out); (case side5 => exact Ck (Kd.C_below HR0_2.out HB.out)); (case side6 => exact HC0_2.out); (case side7 => exact Ck (Kd.R_reads' HO_3.out).2.2); (case side8 => exact (Kd.R_reads' HO_3.out).2.1); rintro e w100 ⟨rfl, hb⟩; have n0_ := Aside0.mk (Kd.R_below (Rk HO_3.out) hb); have n1_ := Aside0.mk (Kd.R_below (Rk HO_414000.out) hb); have n2_ := Aside0.mk (Kd.S_below (by (with_reducible repeat (first | apply Kd.S_alloc | apply Kd.S_drewN | apply Kd.S_drew)); exact HO_414001.out) hb); have n3_ := Aside0.mk (Kd.R_below (Rk HO_414002.out) hb); have n4_ := Aside0.mk (Kd.R_below (Rk HO426.out) hb); have n5_ := Aside0.mk (blk_below (g := gb397) (o := .cells #[.slice A0_0 l0_0.length c0_0, .slice A0_1 l0_1.length c0_1, .slice A0_2 l0_2.length c0_2] 25 (0, 0)) (Bk BK397.out) hb); have n6_ := Aside0.mk (blk_below (g := gb413) (o := .cells #[.slice Ao15 t403.length co15, .slice Ao18 t406.length co18, .slice Ao19 t409.length co19] 25 (0, 0)) (Bk BK413.out) hb); have n7_ := Aside0.mk (below_step (Bw HB.out) hb); clear HO_3; clear HO_414000; clear HO_414001; clear HO_414002; clear HO426; clear BK397; clear BK413; clear HB; have HO_3 := n0_; have HO_414000 := n1_; have HO_414001 := n2_; have HO_414002 := n3_; have HO426 := n4_; have BK397 := n5_; have BK413 := n6_; have HB := n7_; clear n0_ n1_ n2_ n3_ n4_ n5_ n6_ n7_; (try clear hb); (try clear hb2); (try clear hk); (try clear hi); obtain ⟨Ao101, co101, eo101⟩ := Kd.R_slice HO426.out; subst eo101) | (go_at_call 23; (with_reducible refine (examboardlaw34_ints.calls k2 _ _ t398 _ _ t424 t430 _ ?side1 ?side2 ?side3 ?side4 A93.out).mono ?_); (case side1 => exact Ck (Kd.R_reads' HO_3.out).2.2); (case side2 => exact (Kd.R_reads' HO_3.out).2.1); (case side3 => exact Ck (Kd.R_reads' HO426.out).2.2); (case side4 => exact (Kd.R_reads' HO426.out).2.1); rintro e w' ⟨rfl, ⟨nd, rfl⟩⟩; (try first | exact ⟨rfl, _, World.drewN_drewN _ _ _⟩ | exact ⟨rfl, _, Eq.trans (World.drewN_drewN _ _ _) (congrArg (World.drewN _) (Nat.add_assoc _ _ _))⟩)))
             repeat (go_quiet (first | (go_at_call 21; (with_reducible refine (zeroone_Solve.calls _ _ t403 _ _ t406 _ _ t409 t424 t427 t428 _ ?side1 ?side2 ?side3 ?side4 ?side5 ?side6 A87.out).mono ?_); (case side1 => exact Ck (Kd.R_reads' HO_414000.out).2.2); (case side2 => exact (Kd.R_reads' HO_414000.out).2.1); (case side3 => exact Ck (Kd.S_reads' HO_414001.out).2.2); (case side4 => exact (Kd.S_reads' HO_414001.out).2.1); (case side5 => exact Ck (Kd.R_reads' HO_414002.out).2.2); (case side6 => exact (Kd.R_reads' HO_414002.out).2.1); rintro e w97 ⟨v425, rfl, ho0, hb⟩; have n0_ := Aside0.mk (Kd.R_elder' (Rk HO_3.out) (Kd.R_base ho0) hb); have n1_ := Aside0.mk (Kd.R_elder' (Rk HO_414000.out) (Kd.R_base ho0) hb); have n2_ := Aside0.mk (Kd.S_elder' (by (with_reducible repeat (first | apply Kd.S_alloc | apply Kd.S_drewN | apply Kd.S_drew)); exact HO_414001.out) (Kd.R_base ho0) hb); have n3_ := Aside0.mk (Kd.R_elder' (Rk HO_414002.out) (Kd.R_base ho0) hb); have n4_ := Aside0.mk (Kd.R_lower (Kd.R_new' (Kd.R_new' (Kd.R_new' ho0 (Kd.R_lt (Rk HO_3.out))) (Kd.R_lt (Rk HO_414000.out))) (Kd.R_lt (Rk HO_414002.out))) (below_size (Bw HB.out))); have n5_ := Aside0.mk (blk_below (g := gb397) (o := .cells #[.slice A0_0 l0_0.length c0_0, .slice A0_1 l0_1.length c0_1, .slice A0_2 l0_2.length c0_2] 25 (0, 0)) (Bk BK397.out) hb); have n6_ := Aside0.mk (blk_below (g := gb413) (o := .cells #[.slice Ao15 t403.length co15, .slice Ao18 t406.length co18, .slice Ao19 t409.length co19] 25 (0, 0)) (Bk BK413.out) hb); have n7_ := Aside0.mk (below_step (Bw HB.out) hb); clear HO_3; clear HO_414000; clear HO_414001; clear HO_414002; clear BK397; clear BK413; clear HB; have HO_3 := n0_; have HO_414000 := n1_; have HO_414001 := n2_; have HO_414002 := n3_; have HO426 := n4_; have BK397 := n5_; have BK413 := n6_; have HB := n7_; clear n0_ n1_ n2_ n3_ n4_ n5_ n6_ n7_; (try clear hb); (try clear hb2); (try clear hk); (try clear hi); (try clear ho0); have hcz98_0 : w97.cell? ⟨gb397, 0, none⟩ = some (.slice A0_0 l0_0.length c0_0) := (blk_cell BK397.out 0).trans rfl; have hcz98_1 : w97.cell? ⟨gb397, 1, none⟩ = some (.slice A0_1 l0_1.length c0_1) := (blk_cell BK397.out 1).trans rfl; have hcz98_2 : w97.cell? ⟨gb397, 2, none⟩ = some (.slice A0_2 l0_2.length c0_2) := (blk_cell BK397.out 2).trans rfl; have hfz98_0 := blk_frozen BK397.out 0; have hfz98_1 := blk_frozen BK397.out 1; have hfz98_2 := blk_frozen BK397.out 2; obtain ⟨Ao99, co99, eo99⟩ := Kd.R_slice HO_3.out; subst eo99) | (go_at_call 16; (with_reducible refine (zeroone_Feasible.calls k2 _ _ l0_0 _ _ l0_1 _ _ l0_2 _ _ t398 true _ ?side1 ?side2 ?side3 ?side4 ?side5 ?side6 ?side7 ?side8 A89.out).mono ?_); (case side1 => exact Ck (Kd.C_below HR0_0.out HB.out)); (case side2 => exact HC0_0.out); (case side3 => exact Ck (Kd.C_below HR0_1.out HB.out)); (case side4 => exact HC0_1.out); (case side5 => exact Ck (Kd.C_below HR0_2.out HB.out)); (case side6 => exact HC0_2.out); (case side7 => exact Ck (Kd.R_reads' HO_3.out).2.2); (case side8 => exact (Kd.R_reads' HO_3.out).2.1); rintro e w100 ⟨rfl, hb⟩; have n0_ := Aside0.mk (Kd.R_below (Rk HO_3.out) hb); have n1_ := Aside0.mk (Kd.R_below (Rk HO_414000.out) hb); have n2_ := Aside0.mk (Kd.S_below (by (with_reducible repeat (first | apply Kd.S_alloc | apply Kd.S_drewN | apply Kd.S_drew)); exact HO_414001.out) hb); have n3_ := Aside0.mk (Kd.R_below (Rk HO_414002.out) hb); have n4_ := Aside0.mk (Kd.R_below (Rk HO426.out) hb); have n5_ := Aside0.mk (blk_below (g := gb397) (o := .cells #[.slice A0_0 l0_0.length c0_0, .slice A0_1 l0_1.length c0_1, .slice A0_2 l0_2.length c0_2] 25 (0, 0)) (Bk BK397.out) hb); have n6_ := Aside0.mk (blk_below (g := gb413) (o := .cells #[.slice Ao15 t403.length co15, .slice Ao18 t406.length co18, .slice Ao19 t409.length co19] 25 (0, 0)) (Bk BK413.out) hb); have n7_ := Aside0.mk (below_step (Bw HB.out) hb); clear HO_3; clear HO_414000; clear HO_414001; clear HO_414002; clear HO426; clear BK397; clear BK413; clear HB; have HO_3 := n0_; have HO_414000 := n1_; have HO_414001 := n2_; have HO_414002 := n3_; have HO426 := n4_; have BK397 := n5_; have BK413 := n6_; have HB := n7_; clear n0_ n1_ n2_ n3_ n4_ n5_ n6_ n7_; (try clear hb); (try clear hb2); (try clear hk); (try clear hi); obtain ⟨Ao101, co101, eo101⟩ := Kd.R_slice HO426.out; subst eo101) | (go_at_call 23; (with_reducible refine (examboardlaw34_ints.calls k2 _ _ t398 _ _ t424 t430 _ ?side1 ?side2 ?side3 ?side4 A93.out).mono ?_); (case side1 => exact Ck (Kd.R_reads' HO_3.out).2.2); (case side2 => exact (Kd.R_reads' HO_3.out).2.1); (case side3 => exact Ck (Kd.R_reads' HO426.out).2.2); (case side4 => exact (Kd.R_reads' HO426.out).2.1); rintro e w' ⟨rfl, ⟨nd, rfl⟩⟩; (try first | exact ⟨rfl, _, World.drewN_drewN _ _ _⟩ | exact ⟨rfl, _, Eq.trans (World.drewN_drewN _ _ _) (congrArg (World.drewN _) (Nat.add_assoc _ _ _))⟩))); try go_wp2_with (first | (go_at_call 21; (with_reducible refine (zeroone_Solve.calls _ _ t403 _ _ t406 _ _ t409 t424 t427 t428 _ ?side1 ?side2 ?side3 ?side4 ?side5 ?side6 A87.out).mono ?_); (case side1 => exact Ck (Kd.R_reads' HO_414000.out).2.2); (case side2 => exact (Kd.R_reads' HO_414000.out).2.1); (case side3 => exact Ck (Kd.S_reads' HO_414001.out).2.2); (case side4 => exact (Kd.S_reads' HO_414001.out).2.1); (case side5 => exact Ck (Kd.R_reads' HO_414002.out).2.2); (case side6 => exact (Kd.R_reads' HO_414002.out).2.1); rintro e w97 ⟨v425, rfl, ho0, hb⟩; have n0_ := Aside0.mk (Kd.R_elder' (Rk HO_3.out) (Kd.R_base ho0) hb); have n1_ := Aside0.mk (Kd.R_elder' (Rk HO_414000.out) (Kd.R_base ho0) hb); have n2_ := Aside0.mk (Kd.S_elder' (by (with_reducible repeat (first | apply Kd.S_alloc | apply Kd.S_drewN | apply Kd.S_drew)); exact HO_414001.out) (Kd.R_base ho0) hb); have n3_ := Aside0.mk (Kd.R_elder' (Rk HO_414002.out) (Kd.R_base ho0) hb); have n4_ := Aside0.mk (Kd.R_lower (Kd.R_new' (Kd.R_new' (Kd.R_new' ho0 (Kd.R_lt (Rk HO_3.out))) (Kd.R_lt (Rk HO_414000.out))) (Kd.R_lt (Rk HO_414002.out))) (below_size (Bw HB.out))); have n5_ := Aside0.mk (blk_below (g := gb397) (o := .cells #[.slice A0_0 l0_0.length c0_0, .slice A0_1 l0_1.length c0_1, .slice A0_2 l0_2.length c0_2] 25 (0, 0)) (Bk BK397.out) hb); have n6_ := Aside0.mk (blk_below (g := gb413) (o := .cells #[.slice Ao15 t403.length co15, .slice Ao18 t406.length co18, .slice Ao19 t409.length co19] 25 (0, 0)) (Bk BK413.out) hb); have n7_ := Aside0.mk (below_step (Bw HB.out) hb); clear HO_3; clear HO_414000; clear HO_414001; clear HO_414002; clear BK397; clear BK413; clear HB; have HO_3 := n0_; have HO_414000 := n1_; have HO_414001 := n2_; have HO_414002 := n3_; have HO426 := n4_; have BK397 := n5_; have BK413 := n6_; have HB := n7_; clear n0_ n1_ n2_ n3_ n4_ n5_ n6_ n7_; (try clear hb); (try clear hb2); (try clear hk); (try clear hi); (try clear ho0); have hcz98_0 : w97.cell? ⟨gb397, 0, none⟩ = some (.slice A0_0 l0_0.length c0_0) := (blk_cell BK397.out 0).trans rfl; have hcz98_1 : w97.cell? ⟨gb397, 1, none⟩ = some (.slice A0_1 l0_1.length c0_1) := (blk_cell BK397.out 1).trans rfl; have hcz98_2 : w97.cell? ⟨gb397, 2, none⟩ = some (.slice A0_2 l0_2.length c0_2) := (blk_cell BK397.out 2).trans rfl; have hfz98_0 := blk_frozen BK397.out 0; have hfz98_1 := blk_frozen BK397.out 1; have hfz98_2 := blk_frozen BK397.out 2; obtain ⟨Ao99, co99, eo99⟩ := Kd.R_slice HO_3.out; subst eo99) | (go_at_call 16; (with_reducible refine (zeroone_Feasible.calls k2 _ _ l0_0 _ _ l0_1 _ _ l0_2 _ _ t398 true _ ?side1 ?side2 ?side3 ?side4 ?side5 ?side6 ?side7 ?side8 A89.out).mono ?_); (case side1 => exact Ck (Kd.C_below HR0_0.out HB.out)); (case side2 => exact HC0_0.out); (case side3 => exact Ck (Kd.C_below HR0_1.out HB.out)); (case side4 => exact HC0_1.out); (case side5 => exact Ck (Kd.C_below HR0_2.out HB.out)); (case side6 => exact HC0_2.out); (case side7 => exact Ck (Kd.R_reads' HO_3.out).2.2); (case side8 => exact (Kd.R_reads' HO_3.out).2.1); rintro e w100 ⟨rfl, hb⟩; have n0_ := Aside0.mk (Kd.R_below (Rk HO_3.out) hb); have n1_ := Aside0.mk (Kd.R_below (Rk HO_414000.out) hb); have n2_ := Aside0.mk (Kd.S_below (by (with_reducible repeat (first | apply Kd.S_alloc | apply Kd.S_drewN | apply Kd.S_drew)); exact HO_414001.out) hb); have n3_ := Aside0.mk (Kd.R_below (Rk HO_414002.out) hb); have n4_ := Aside0.mk (Kd.R_below (Rk HO426.out) hb); have n5_ := Aside0.mk (blk_below (g := gb397) (o := .cells #[.slice A0_0 l0_0.length c0_0, .slice A0_1 l0_1.length c0_1, .slice A0_2 l0_2.length c0_2] 25 (0, 0)) (Bk BK397.out) hb); have n6_ := Aside0.mk (blk_below (g := gb413) (o := .cells #[.slice Ao15 t403.length co15, .slice Ao18 t406.length co18, .slice Ao19 t409.length co19] 25 (0, 0)) (Bk BK413.out) hb); have n7_ := Aside0.mk (below_step (Bw HB.out) hb); clear HO_3; clear HO_414000; clear HO_414001; clear HO_414002; clear HO426; clear BK397; clear BK413; clear HB; have HO_3 := n0_; have HO_414000 := n1_; have HO_414001 := n2_; have HO_414002 := n3_; have HO426 := n4_; have BK397 := n5_; have BK413 := n6_; have HB := n7_; clear n0_ n1_ n2_ n3_ n4_ n5_ n6_ n7_; (try clear hb); (try clear hb2); (try clear hk); (try clear hi); obtain ⟨Ao101, co101, eo101⟩ := Kd.R_slice HO426.out; subst eo101) | (go_at_call 23; (with_reducible refine (examboardlaw34_ints.calls k2 _ _ t398 _ _ t424 t430 _ ?side1 ?side2 ?side3 ?side4 A93.out).mono ?_); (case side1 => exact Ck (Kd.R_reads' HO_3.out).2.2); (case side2 => exact (Kd.R_reads' HO_3.out).2.1); (case side3 => exact Ck (Kd.R_reads' HO426.out).2.2); (case side4 => exact (Kd.R_reads' HO426.out).2.1); rintro e w' ⟨rfl, ⟨nd, rfl⟩⟩; (try first | exact ⟨rfl, _, World.drewN_drewN _ _ _⟩ | exact ⟨rfl, _, Eq.trans (World.drewN_drewN _ _ _) (congrArg (World.drewN _) (Nat.add_assoc _ _ _))⟩))))
             go_ret
             exact ⟨Es, Bw HB.out⟩
            ·
             rw [if_neg c92] at H
             have c92b0 : (t401 == t427) = false := beq_eq_false_iff_ne.mpr c92
             have c92b1 : (t401 != t427) = true := bne_iff_ne.mpr c92
             obtain rfl := Option.some.inj H
             have hnb102 := NB397_413.out
             have hnc102 := NB413_397.out
             have hcz103_0 : wr.cell? ⟨gb397, 0, none⟩ = some (.slice A0_0 l0_0.length c0_0) := (blk_cell BK397.out 0).trans rfl
             have hcz103_1 : wr.cell? ⟨gb397, 1, none⟩ = some (.slice A0_1 l0_1.length c0_1) := (blk_cell BK397.out 1).trans rfl
             have hcz103_2 : wr.cell? ⟨gb397, 2, none⟩ = some (.slice A0_2 l0_2.length c0_2) := (blk_cell BK397.out 2).trans rfl
             have hfz103_0 := blk_frozen BK397.out 0
             have hfz103_1 := blk_frozen BK397.out 1
             have hfz103_2 := blk_frozen BK397.out 2
             have hcz104_0 : wr.cell? ⟨gb413, 0, none⟩ = some (.slice Ao15 t403.length co15) := (blk_cell BK413.out 0).trans rfl
             have hcz104_1 : wr.cell? ⟨gb413, 1, none⟩ = some (.slice Ao18 t406.length co18) := (blk_cell BK413.out 1).trans rfl
             have hcz104_2 : wr.cell? ⟨gb413, 2, none⟩ = some (.slice Ao19 t409.length co19) := (blk_cell BK413.out 2).trans rfl
             have hfz104_0 := blk_frozen BK413.out 0
             have hfz104_1 := blk_frozen BK413.out 1
             have hfz104_2 := blk_frozen BK413.out 2
             go_wp2_with (first | (go_at_call 21; (with_reducible refine (zeroone_Solve.calls _ _ t403 _ _ t406 _ _ t409 t424 t427 t428 _ ?side1 ?side2 ?side3 ?side4 ?side5 ?side6 A87.out).mono ?_); (case side1 => exact Ck (Kd.R_reads' HO_414000.out).2.2); (case side2 => exact (Kd.R_reads' HO_414000.out).2.1); (case side3 => exact Ck (Kd.S_reads' HO_414001.out).2.2); (case side4 => exact (Kd.S_reads' HO_414001.out).2.1); (case side5 => exact Ck (Kd.R_reads' HO_414002.out).2.2); (case side6 => exact (Kd.R_reads' HO_414002.out).2.1); rintro e w105 ⟨v425, rfl, ho0, hb⟩; have n0_ := Aside0.mk (Kd.R_elder' (Rk HO_3.out) (Kd.R_base ho0) hb); have n1_ := Aside0.mk (Kd.R_elder' (Rk HO_414000.out) (Kd.R_base ho0) hb); have n2_ := Aside0.mk (Kd.S_elder' (by (with_reducible repeat (first | apply Kd.S_alloc | apply Kd.S_drewN | apply Kd.S_drew)); exact HO_414001.out) (Kd.R_base ho0) hb); have n3_ := Aside0.mk (Kd.R_elder' (Rk HO_414002.out) (Kd.R_base ho0) hb); have n4_ := Aside0.mk (Kd.R_lower (Kd.R_new' (Kd.R_new' (Kd.R_new' ho0 (Kd.R_lt (Rk HO_3.out))) (Kd.R_lt (Rk HO_414000.out))) (Kd.R_lt (Rk HO_414002.out))) (below_size (Bw HB.out))); have n5_ := Aside0.mk (blk_below (g := gb397) (o := .cells #[.slice A0_0 l0_0.length c0_0, .slice A0_1 l0_1.length c0_1, .slice A0_2 l0_2.length c0_2] 25 (0, 0)) (Bk BK397.out) hb); have n6_ := Aside0.mk (blk_below (g := gb413) (o := .cells #[.slice Ao15 t403.length co15, .slice Ao18 t406.length co18, .slice Ao19 t409.length co19] 25 (0, 0)) (Bk BK413.out) hb); have n7_ := Aside0.mk (below_step (Bw HB.out) hb); clear HO_3; clear HO_414000; clear HO_414001; clear HO_414002; clear BK397; clear BK413; clear HB; have HO_3 := n0_; have HO_414000 := n1_; have HO_414001 := n2_; have HO_414002 := n3_; have HO426 := n4_; have BK397 := n5_; have BK413 := n6_; have HB := n7_; clear n0_ n1_ n2_ n3_ n4_ n5_ n6_ n7_; (try clear hb); (try clear hb2); (try clear hk); (try clear hi); (try clear ho0); have hcz106_0 : w105.cell? ⟨gb397, 0, none⟩ = some (.slice A0_0 l0_0.length c0_0) := (blk_cell BK397.out 0).trans rfl; have hcz106_1 : w105.cell? ⟨gb397, 1, none⟩ = some (.slice A0_1 l0_1.length c0_1) := (blk_cell BK397.out 1).trans rfl; have hcz106_2 : w105.cell? ⟨gb397, 2, none⟩ = some (.slice A0_2 l0_2.length c0_2) := (blk_cell BK397.out 2).trans rfl; have hfz106_0 := blk_frozen BK397.out 0; have hfz106_1 := blk_frozen BK397.out 1; have hfz106_2 := blk_frozen BK397.out 2; obtain ⟨Ao107, co107, eo107⟩ := Kd.R_slice HO_3.out; subst eo107) | (go_at_call 16; (with_reducible refine (zeroone_Feasible.calls k2 _ _ l0_0 _ _ l0_1 _ _ l0_2 _ _ t398 true _ ?side1 ?side2 ?side3 ?side4 ?side5 ?side6 ?side7 ?side8 A89.out).mono ?_); (case side1 => exact Ck (Kd.C_below HR0_0.out HB.out)); (case side2 => exact HC0_0.out); (case side3 => exact Ck (Kd.C_below HR0_1.out HB.out)); (case side4 => exact HC0_1.out); (case side5 => exact Ck (Kd.C_below HR0_2.out HB.out)); (case side6 => exact HC0_2.out); (case side7 => exact Ck (Kd.R_reads' HO_3.out).2.2); (case side8 => exact (Kd.R_reads' HO_3.out).2.1); rintro e w108 ⟨rfl, hb⟩; have n0_ := Aside0.mk (Kd.R_below (Rk HO_3.out) hb); have n1_ := Aside0.mk (Kd.R_below (Rk HO_414000.out) hb); have n2_ := Aside0.mk (Kd.S_below (by (with_reducible repeat (first | apply Kd.S_alloc | apply Kd.S_drewN | apply Kd.S_drew)); exact HO_414001.out) hb); have n3_ := Aside0.mk (Kd.R_below (Rk HO_414002.out) hb); have n4_ := Aside0.mk (Kd.R_below (Rk HO426.out) hb); have n5_ := Aside0.mk (blk_below (g := gb397) (o := .cells #[.slice A0_0 l0_0.length c0_0, .slice A0_1 l0_1.length c0_1, .slice A0_2 l0_2.length c0_2] 25 (0, 0)) (Bk BK397.out) hb); have n6_ := Aside0.mk (blk_below (g := gb413) (o := .cells #[.slice Ao15 t403.length co15, .slice Ao18 t406.length co18, .slice Ao19 t409.length co19] 25 (0, 0)) (Bk BK413.out) hb); have n7_ := Aside0.mk (below_step (Bw HB.out) hb); clear HO_3; clear HO_414000; clear HO_414001; clear HO_414002; clear HO426; clear BK397; clear BK413; clear HB; have HO_3 := n0_; have HO_414000 := n1_; have HO_414001 := n2_; have HO_414002 := n3_; have HO426 := n4_; have BK397 := n5_; have BK413 := n6_; have HB := n7_; clear n0_ n1_ n2_ n3_ n4_ n5_ n6_ n7_; (try clear hb); (try clear hb2); (try clear hk); (try clear hi)))
             repeat (go_quiet (first | (go_at_call 21; (with_reducible refine (zeroone_Solve.calls _ _ t403 _ _ t406 _ _ t409 t424 t427 t428 _ ?side1 ?side2 ?side3 ?side4 ?side5 ?side6 A87.out).mono ?_); (case side1 => exact Ck (Kd.R_reads' HO_414000.out).2.2); (case side2 => exact (Kd.R_reads' HO_414000.out).2.1); (case side3 => exact Ck (Kd.S_reads' HO_414001.out).2.2); (case side4 => exact (Kd.S_reads' HO_414001.out).2.1); (case side5 => exact Ck (Kd.R_reads' HO_414002.out).2.2); (case side6 => exact (Kd.R_reads' HO_414002.out).2.1); rintro e w105 ⟨v425, rfl, ho0, hb⟩; have n0_ := Aside0.mk (Kd.R_elder' (Rk HO_3.out) (Kd.R_base ho0) hb); have n1_ := Aside0.mk (Kd.R_elder' (Rk HO_414000.out) (Kd.R_base ho0) hb); have n2_ := Aside0.mk (Kd.S_elder' (by (with_reducible repeat (first | apply Kd.S_alloc | apply Kd.S_drewN | apply Kd.S_drew)); exact HO_414001.out) (Kd.R_base ho0) hb); have n3_ := Aside0.mk (Kd.R_elder' (Rk HO_414002.out) (Kd.R_base ho0) hb); have n4_ := Aside0.mk (Kd.R_lower (Kd.R_new' (Kd.R_new' (Kd.R_new' ho0 (Kd.R_lt (Rk HO_3.out))) (Kd.R_lt (Rk HO_414000.out))) (Kd.R_lt (Rk HO_414002.out))) (below_size (Bw HB.out))); have n5_ := Aside0.mk (blk_below (g := gb397) (o := .cells #[.slice A0_0 l0_0.length c0_0, .slice A0_1 l0_1.length c0_1, .slice A0_2 l0_2.length c0_2] 25 (0, 0)) (Bk BK397.out) hb); have n6_ := Aside0.mk (blk_below (g := gb413) (o := .cells #[.slice Ao15 t403.length co15, .slice Ao18 t406.length co18, .slice Ao19 t409.length co19] 25 (0, 0)) (Bk BK413.out) hb); have n7_ := Aside0.mk (below_step (Bw HB.out) hb); clear HO_3; clear HO_414000; clear HO_414001; clear HO_414002; clear BK397; clear BK413; clear HB; have HO_3 := n0_; have HO_414000 := n1_; have HO_414001 := n2_; have HO_414002 := n3_; have HO426 := n4_; have BK397 := n5_; have BK413 := n6_; have HB := n7_; clear n0_ n1_ n2_ n3_ n4_ n5_ n6_ n7_; (try clear hb); (try clear hb2); (try clear hk); (try clear hi); (try clear ho0); have hcz106_0 : w105.cell? ⟨gb397, 0, none⟩ = some (.slice A0_0 l0_0.length c0_0) := (blk_cell BK397.out 0).trans rfl; have hcz106_1 : w105.cell? ⟨gb397, 1, none⟩ = some (.slice A0_1 l0_1.length c0_1) := (blk_cell BK397.out 1).trans rfl; have hcz106_2 : w105.cell? ⟨gb397, 2, none⟩ = some (.slice A0_2 l0_2.length c0_2) := (blk_cell BK397.out 2).trans rfl; have hfz106_0 := blk_frozen BK397.out 0; have hfz106_1 := blk_frozen BK397.out 1; have hfz106_2 := blk_frozen BK397.out 2; obtain ⟨Ao107, co107, eo107⟩ := Kd.R_slice HO_3.out; subst eo107) | (go_at_call 16; (with_reducible refine (zeroone_Feasible.calls k2 _ _ l0_0 _ _ l0_1 _ _ l0_2 _ _ t398 true _ ?side1 ?side2 ?side3 ?side4 ?side5 ?side6 ?side7 ?side8 A89.out).mono ?_); (case side1 => exact Ck (Kd.C_below HR0_0.out HB.out)); (case side2 => exact HC0_0.out); (case side3 => exact Ck (Kd.C_below HR0_1.out HB.out)); (case side4 => exact HC0_1.out); (case side5 => exact Ck (Kd.C_below HR0_2.out HB.out)); (case side6 => exact HC0_2.out); (case side7 => exact Ck (Kd.R_reads' HO_3.out).2.2); (case side8 => exact (Kd.R_reads' HO_3.out).2.1); rintro e w108 ⟨rfl, hb⟩; have n0_ := Aside0.mk (Kd.R_below (Rk HO_3.out) hb); have n1_ := Aside0.mk (Kd.R_below (Rk HO_414000.out) hb); have n2_ := Aside0.mk (Kd.S_below (by (with_reducible repeat (first | apply Kd.S_alloc | apply Kd.S_drewN | apply Kd.S_drew)); exact HO_414001.out) hb); have n3_ := Aside0.mk (Kd.R_below (Rk HO_414002.out) hb); have n4_ := Aside0.mk (Kd.R_below (Rk HO426.out) hb); have n5_ := Aside0.mk (blk_below (g := gb397) (o := .cells #[.slice A0_0 l0_0.length c0_0, .slice A0_1 l0_1.length c0_1, .slice A0_2 l0_2.length c0_2] 25 (0, 0)) (Bk BK397.out) hb); have n6_ := Aside0.mk (blk_below (g := gb413) (o := .cells #[.slice Ao15 t403.length co15, .slice Ao18 t406.length co18, .slice Ao19 t409.length co19] 25 (0, 0)) (Bk BK413.out) hb); have n7_ := Aside0.mk (below_step (Bw HB.out) hb); clear HO_3; clear HO_414000; clear HO_414001; clear HO_414002; clear HO426; clear BK397; clear BK413; clear HB; have HO_3 := n0_; have HO_414000 := n1_; have HO_414001 := n2_; have HO_414002 := n3_; have HO426 := n4_; have BK397 := n5_; have BK413 := n6_; have HB := n7_; clear n0_ n1_ n2_ n3_ n4_ n5_ n6_ n7_; (try clear hb); (try clear hb2); (try clear hk); (try clear hi))); try go_wp2_with (first | (go_at_call 21; (with_reducible refine (zeroone_Solve.calls _ _ t403 _ _ t406 _ _ t409 t424 t427 t428 _ ?side1 ?side2 ?side3 ?side4 ?side5 ?side6 A87.out).mono ?_); (case side1 => exact Ck (Kd.R_reads' HO_414000.out).2.2); (case side2 => exact (Kd.R_reads' HO_414000.out).2.1); (case side3 => exact Ck (Kd.S_reads' HO_414001.out).2.2); (case side4 => exact (Kd.S_reads' HO_414001.out).2.1); (case side5 => exact Ck (Kd.R_reads' HO_414002.out).2.2); (case side6 => exact (Kd.R_reads' HO_414002.out).2.1); rintro e w105 ⟨v425, rfl, ho0, hb⟩; have n0_ := Aside0.mk (Kd.R_elder' (Rk HO_3.out) (Kd.R_base ho0) hb); have n1_ := Aside0.mk (Kd.R_elder' (Rk HO_414000.out) (Kd.R_base ho0) hb); have n2_ := Aside0.mk (Kd.S_elder' (by (with_reducible repeat (first | apply Kd.S_alloc | apply Kd.S_drewN | apply Kd.S_drew)); exact HO_414001.out) (Kd.R_base ho0) hb); have n3_ := Aside0.mk (Kd.R_elder' (Rk HO_414002.out) (Kd.R_base ho0) hb); have n4_ := Aside0.mk (Kd.R_lower (Kd.R_new' (Kd.R_new' (Kd.R_new' ho0 (Kd.R_lt (Rk HO_3.out))) (Kd.R_lt (Rk HO_414000.out))) (Kd.R_lt (Rk HO_414002.out))) (below_size (Bw HB.out))); have n5_ := Aside0.mk (blk_below (g := gb397) (o := .cells #[.slice A0_0 l0_0.length c0_0, .slice A0_1 l0_1.length c0_1, .slice A0_2 l0_2.length c0_2] 25 (0, 0)) (Bk BK397.out) hb); have n6_ := Aside0.mk (blk_below (g := gb413) (o := .cells #[.slice Ao15 t403.length co15, .slice Ao18 t406.length co18, .slice Ao19 t409.length co19] 25 (0, 0)) (Bk BK413.out) hb); have n7_ := Aside0.mk (below_step (Bw HB.out) hb); clear HO_3; clear HO_414000; clear HO_414001; clear HO_414002; clear BK397; clear BK413; clear HB; have HO_3 := n0_; have HO_414000 := n1_; have HO_414001 := n2_; have HO_414002 := n3_; have HO426 := n4_; have BK397 := n5_; have BK413 := n6_; have HB := n7_; clear n0_ n1_ n2_ n3_ n4_ n5_ n6_ n7_; (try clear hb); (try clear hb2); (try clear hk); (try clear hi); (try clear ho0); have hcz106_0 : w105.cell? ⟨gb397, 0, none⟩ = some (.slice A0_0 l0_0.length c0_0) := (blk_cell BK397.out 0).trans rfl; have hcz106_1 : w105.cell? ⟨gb397, 1, none⟩ = some (.slice A0_1 l0_1.length c0_1) := (blk_cell BK397.out 1).trans rfl; have hcz106_2 : w105.cell? ⟨gb397, 2, none⟩ = some (.slice A0_2 l0_2.length c0_2) := (blk_cell BK397.out 2).trans rfl; have hfz106_0 := blk_frozen BK397.out 0; have hfz106_1 := blk_frozen BK397.out 1; have hfz106_2 := blk_frozen BK397.out 2; obtain ⟨Ao107, co107, eo107⟩ := Kd.R_slice HO_3.out; subst eo107) | (go_at_call 16; (with_reducible refine (zeroone_Feasible.calls k2 _ _ l0_0 _ _ l0_1 _ _ l0_2 _ _ t398 true _ ?side1 ?side2 ?side3 ?side4 ?side5 ?side6 ?side7 ?side8 A89.out).mono ?_); (case side1 => exact Ck (Kd.C_below HR0_0.out HB.out)); (case side2 => exact HC0_0.out); (case side3 => exact Ck (Kd.C_below HR0_1.out HB.out)); (case side4 => exact HC0_1.out); (case side5 => exact Ck (Kd.C_below HR0_2.out HB.out)); (case side6 => exact HC0_2.out); (case side7 => exact Ck (Kd.R_reads' HO_3.out).2.2); (case side8 => exact (Kd.R_reads' HO_3.out).2.1); rintro e w108 ⟨rfl, hb⟩; have n0_ := Aside0.mk (Kd.R_below (Rk HO_3.out) hb); have n1_ := Aside0.mk (Kd.R_below (Rk HO_414000.out) hb); have n2_ := Aside0.mk (Kd.S_below (by (with_reducible repeat (first | apply Kd.S_alloc | apply Kd.S_drewN | apply Kd.S_drew)); exact HO_414001.out) hb); have n3_ := Aside0.mk (Kd.R_below (Rk HO_414002.out) hb); have n4_ := Aside0.mk (Kd.R_below (Rk HO426.out) hb); have n5_ := Aside0.mk (blk_below (g := gb397) (o := .cells #[.slice A0_0 l0_0.length c0_0, .slice A0_1 l0_1.length c0_1, .slice A0_2 l0_2.length c0_2] 25 (0, 0)) (Bk BK397.out) hb); have n6_ := Aside0.mk (blk_below (g := gb413) (o := .cells #[.slice Ao15 t403.length co15, .slice Ao18 t406.length co18, .slice Ao19 t409.length co19] 25 (0, 0)) (Bk BK413.out) hb); have n7_ := Aside0.mk (below_step (Bw HB.out) hb); clear HO_3; clear HO_414000; clear HO_414001; clear HO_414002; clear HO426; clear BK397; clear BK413; clear HB; have HO_3 := n0_; have HO_414000 := n1_; have HO_414001 := n2_; have HO_414002 := n3_; have HO426 := n4_; have BK397 := n5_; have BK413 := n6_; have HB := n7_; clear n0_ n1_ n2_ n3_ n4_ n5_ n6_ n7_; (try clear hb); (try clear hb2); (try clear hk); (try clear hi))))
             go_ret
             exact ⟨Es, Bw HB.out⟩
           ·
            rw [if_neg c91] at H
            have c91b0 : (t402 == t428) = false := beq_eq_false_iff_ne.mpr c91
            have c91b1 : (t402 != t428) = true := bne_iff_ne.mpr c91
            obtain rfl := Option.some.inj H
            have hnb109 := NB397_413.out
            have hnc109 := NB413_397.out
            have hcz110_0 : wr.cell? ⟨gb397, 0, none⟩ = some (.slice A0_0 l0_0.length c0_0) := (blk_cell BK397.out 0).trans rfl
            have hcz110_1 : wr.cell? ⟨gb397, 1, none⟩ = some (.slice A0_1 l0_1.length c0_1) := (blk_cell BK397.out 1).trans rfl
            have hcz110_2 : wr.cell? ⟨gb397, 2, none⟩ = some (.slice A0_2 l0_2.length c0_2) := (blk_cell BK397.out 2).trans rfl
            have hfz110_0 := blk_frozen BK397.out 0
            have hfz110_1 := blk_frozen BK397.out 1
            have hfz110_2 := blk_frozen BK397.out 2
            have hcz111_0 : wr.cell? ⟨gb413, 0, none⟩ = some (.slice Ao15 t403.length co15) := (blk_cell BK413.out 0).trans rfl
            have hcz111_1 : wr.cell? ⟨gb413, 1, none⟩ = some (.slice Ao18 t406.length co18) := (blk_cell BK413.out 1).trans rfl
            have hcz111_2 : wr.cell? ⟨gb413, 2, none⟩ = some (.slice Ao19 t409.length co19) := (blk_cell BK413.out 2).trans rfl
            have hfz111_0 := blk_frozen BK413.out 0
            have hfz111_1 := blk_frozen BK413.out 1
            have hfz111_2 := blk_frozen BK413.out 2
            go_wp2_with (first | (go_at_call 21; (with_reducible refine (zeroone_Solve.calls _ _ t403 _ _ t406 _ _ t409 t424 t427 t428 _ ?side1 ?side2 ?side3 ?side4 ?side5 ?side6 A87.out).mono ?_); (case side1 => exact Ck (Kd.R_reads' HO_414000.out).2.2); (case side2 => exact (Kd.R_reads' HO_414000.out).2.1); (case side3 => exact Ck (Kd.S_reads' HO_414001.out).2.2); (case side4 => exact (Kd.S_reads' HO_414001.out).2.1); (case side5 => exact Ck (Kd.R_reads' HO_414002.out).2.2); (case side6 => exact (Kd.R_reads' HO_414002.out).2.1); rintro e w112 ⟨v425, rfl, ho0, hb⟩; have n0_ := Aside0.mk (Kd.R_elder' (Rk HO_3.out) (Kd.R_base ho0) hb); have n1_ := Aside0.mk (Kd.R_elder' (Rk HO_414000.out) (Kd.R_base ho0) hb); have n2_ := Aside0.mk (Kd.S_elder' (by (with_reducible repeat (first | apply Kd.S_alloc | apply Kd.S_drewN | apply Kd.S_drew)); exact HO_414001.out) (Kd.R_base ho0) hb); have n3_ := Aside0.mk (Kd.R_elder' (Rk HO_414002.out) (Kd.R_base ho0) hb); have n4_ := Aside0.mk (Kd.R_lower (Kd.R_new' (Kd.R_new' (Kd.R_new' ho0 (Kd.R_lt (Rk HO_3.out))) (Kd.R_lt (Rk HO_414000.out))) (Kd.R_lt (Rk HO_414002.out))) (below_size (Bw HB.out))); have n5_ := Aside0.mk (blk_below (g := gb397) (o := .cells #[.slice A0_0 l0_0.length c0_0, .slice A0_1 l0_1.length c0_1, .slice A0_2 l0_2.length c0_2] 25 (0, 0)) (Bk BK397.out) hb); have n6_ := Aside0.mk (blk_below (g := gb413) (o := .cells #[.slice Ao15 t403.length co15, .slice Ao18 t406.length co18, .slice Ao19 t409.length co19] 25 (0, 0)) (Bk BK413.out) hb); have n7_ := Aside0.mk (below_step (Bw HB.out) hb); clear HO_3; clear HO_414000; clear HO_414001; clear HO_414002; clear BK397; clear BK413; clear HB; have HO_3 := n0_; have HO_414000 := n1_; have HO_414001 := n2_; have HO_414002 := n3_; have HO426 := n4_; have BK397 := n5_; have BK413 := n6_; have HB := n7_; clear n0_ n1_ n2_ n3_ n4_ n5_ n6_ n7_; (try clear hb); (try clear hb2); (try clear hk); (try clear hi); (try clear ho0); have hcz113_0 : w112.cell? ⟨gb397, 0, none⟩ = some (.slice A0_0 l0_0.length c0_0) := (blk_cell BK397.out 0).trans rfl; have hcz113_1 : w112.cell? ⟨gb397, 1, none⟩ = some (.slice A0_1 l0_1.length c0_1) := (blk_cell BK397.out 1).trans rfl; have hcz113_2 : w112.cell? ⟨gb397, 2, none⟩ = some (.slice A0_2 l0_2.length c0_2) := (blk_cell BK397.out 2).trans rfl; have hfz113_0 := blk_frozen BK397.out 0; have hfz113_1 := blk_frozen BK397.out 1; have hfz113_2 := blk_frozen BK397.out 2; obtain ⟨Ao114, co114, eo114⟩ := Kd.R_slice HO_3.out; subst eo114) | (go_at_call 16; (with_reducible refine (zeroone_Feasible.calls k2 _ _ l0_0 _ _ l0_1 _ _ l0_2 _ _ t398 true _ ?side1 ?side2 ?side3 ?side4 ?side5 ?side6 ?side7 ?side8 A89.out).mono ?_); (case side1 => exact Ck (Kd.C_below HR0_0.out HB.out)); (case side2 => exact HC0_0.out); (case side3 => exact Ck (Kd.C_below HR0_1.out HB.out)); (case side4 => exact HC0_1.out); (case side5 => exact Ck (Kd.C_below HR0_2.out HB.out)); (case side6 => exact HC0_2.out); (case side7 => exact Ck (Kd.R_reads' HO_3.out).2.2); (case side8 => exact (Kd.R_reads' HO_3.out).2.1); rintro e w115 ⟨rfl, hb⟩; have n0_ := Aside0.mk (Kd.R_below (Rk HO_3.out) hb); have n1_ := Aside0.mk (Kd.R_below (Rk HO_414000.out) hb); have n2_ := Aside0.mk (Kd.S_below (by (with_reducible repeat (first | apply Kd.S_alloc | apply Kd.S_drewN | apply Kd.S_drew)); exact HO_414001.out) hb); have n3_ := Aside0.mk (Kd.R_below (Rk HO_414002.out) hb); have n4_ := Aside0.mk (Kd.R_below (Rk HO426.out) hb); have n5_ := Aside0.mk (blk_below (g := gb397) (o := .cells #[.slice A0_0 l0_0.length c0_0, .slice A0_1 l0_1.length c0_1, .slice A0_2 l0_2.length c0_2] 25 (0, 0)) (Bk BK397.out) hb); have n6_ := Aside0.mk (blk_below (g := gb413) (o := .cells #[.slice Ao15 t403.length co15, .slice Ao18 t406.length co18, .slice Ao19 t409.length co19] 25 (0, 0)) (Bk BK413.out) hb); have n7_ := Aside0.mk (below_step (Bw HB.out) hb); clear HO_3; clear HO_414000; clear HO_414001; clear HO_414002; clear HO426; clear BK397; clear BK413; clear HB; have HO_3 := n0_; have HO_414000 := n1_; have HO_414001 := n2_; have HO_414002 := n3_; have HO426 := n4_; have BK397 := n5_; have BK413 := n6_; have HB := n7_; clear n0_ n1_ n2_ n3_ n4_ n5_ n6_ n7_; (try clear hb); (try clear hb2); (try clear hk); (try clear hi)))
            repeat (go_quiet (first | (go_at_call 21; (with_reducible refine (zeroone_Solve.calls _ _ t403 _ _ t406 _ _ t409 t424 t427 t428 _ ?side1 ?side2 ?side3 ?side4 ?side5 ?side6 A87.out).mono ?_); (case side1 => exact Ck (Kd.R_reads' HO_414000.out).2.2); (case side2 => exact (Kd.R_reads' HO_414000.out).2.1); (case side3 => exact Ck (Kd.S_reads' HO_414001.out).2.2); (case side4 => exact (Kd.S_reads' HO_414001.out).2.1); (case side5 => exact Ck (Kd.R_reads' HO_414002.out).2.2); (case side6 => exact (Kd.R_reads' HO_414002.out).2.1); rintro e w112 ⟨v425, rfl, ho0, hb⟩; have n0_ := Aside0.mk (Kd.R_elder' (Rk HO_3.out) (Kd.R_base ho0) hb); have n1_ := Aside0.mk (Kd.R_elder' (Rk HO_414000.out) (Kd.R_base ho0) hb); have n2_ := Aside0.mk (Kd.S_elder' (by (with_reducible repeat (first | apply Kd.S_alloc | apply Kd.S_drewN | apply Kd.S_drew)); exact HO_414001.out) (Kd.R_base ho0) hb); have n3_ := Aside0.mk (Kd.R_elder' (Rk HO_414002.out) (Kd.R_base ho0) hb); have n4_ := Aside0.mk (Kd.R_lower (Kd.R_new' (Kd.R_new' (Kd.R_new' ho0 (Kd.R_lt (Rk HO_3.out))) (Kd.R_lt (Rk HO_414000.out))) (Kd.R_lt (Rk HO_414002.out))) (below_size (Bw HB.out))); have n5_ := Aside0.mk (blk_below (g := gb397) (o := .cells #[.slice A0_0 l0_0.length c0_0, .slice A0_1 l0_1.length c0_1, .slice A0_2 l0_2.length c0_2] 25 (0, 0)) (Bk BK397.out) hb); have n6_ := Aside0.mk (blk_below (g := gb413) (o := .cells #[.slice Ao15 t403.length co15, .slice Ao18 t406.length co18, .slice Ao19 t409.length co19] 25 (0, 0)) (Bk BK413.out) hb); have n7_ := Aside0.mk (below_step (Bw HB.out) hb); clear HO_3; clear HO_414000; clear HO_414001; clear HO_414002; clear BK397; clear BK413; clear HB; have HO_3 := n0_; have HO_414000 := n1_; have HO_414001 := n2_; have HO_414002 := n3_; have HO426 := n4_; have BK397 := n5_; have BK413 := n6_; have HB := n7_; clear n0_ n1_ n2_ n3_ n4_ n5_ n6_ n7_; (try clear hb); (try clear hb2); (try clear hk); (try clear hi); (try clear ho0); have hcz113_0 : w112.cell? ⟨gb397, 0, none⟩ = some (.slice A0_0 l0_0.length c0_0) := (blk_cell BK397.out 0).trans rfl; have hcz113_1 : w112.cell? ⟨gb397, 1, none⟩ = some (.slice A0_1 l0_1.length c0_1) := (blk_cell BK397.out 1).trans rfl; have hcz113_2 : w112.cell? ⟨gb397, 2, none⟩ = some (.slice A0_2 l0_2.length c0_2) := (blk_cell BK397.out 2).trans rfl; have hfz113_0 := blk_frozen BK397.out 0; have hfz113_1 := blk_frozen BK397.out 1; have hfz113_2 := blk_frozen BK397.out 2; obtain ⟨Ao114, co114, eo114⟩ := Kd.R_slice HO_3.out; subst eo114) | (go_at_call 16; (with_reducible refine (zeroone_Feasible.calls k2 _ _ l0_0 _ _ l0_1 _ _ l0_2 _ _ t398 true _ ?side1 ?side2 ?side3 ?side4 ?side5 ?side6 ?side7 ?side8 A89.out).mono ?_); (case side1 => exact Ck (Kd.C_below HR0_0.out HB.out)); (case side2 => exact HC0_0.out); (case side3 => exact Ck (Kd.C_below HR0_1.out HB.out)); (case side4 => exact HC0_1.out); (case side5 => exact Ck (Kd.C_below HR0_2.out HB.out)); (case side6 => exact HC0_2.out); (case side7 => exact Ck (Kd.R_reads' HO_3.out).2.2); (case side8 => exact (Kd.R_reads' HO_3.out).2.1); rintro e w115 ⟨rfl, hb⟩; have n0_ := Aside0.mk (Kd.R_below (Rk HO_3.out) hb); have n1_ := Aside0.mk (Kd.R_below (Rk HO_414000.out) hb); have n2_ := Aside0.mk (Kd.S_below (by (with_reducible repeat (first | apply Kd.S_alloc | apply Kd.S_drewN | apply Kd.S_drew)); exact HO_414001.out) hb); have n3_ := Aside0.mk (Kd.R_below (Rk HO_414002.out) hb); have n4_ := Aside0.mk (Kd.R_below (Rk HO426.out) hb); have n5_ := Aside0.mk (blk_below (g := gb397) (o := .cells #[.slice A0_0 l0_0.length c0_0, .slice A0_1 l0_1.length c0_1, .slice A0_2 l0_2.length c0_2] 25 (0, 0)) (Bk BK397.out) hb); have n6_ := Aside0.mk (blk_below (g := gb413) (o := .cells #[.slice Ao15 t403.length co15, .slice Ao18 t406.length co18, .slice Ao19 t409.length co19] 25 (0, 0)) (Bk BK413.out) hb); have n7_ := Aside0.mk (below_step (Bw HB.out) hb); clear HO_3; clear HO_414000; clear HO_414001; clear HO_414002; clear HO426; clear BK397; clear BK413; clear HB; have HO_3 := n0_; have HO_414000 := n1_; have HO_414001 := n2_; have HO_414002 := n3_; have HO426 := n4_; have BK397 := n5_; have BK413 := n6_; have HB := n7_; clear n0_ n1_ n2_ n3_ n4_ n5_ n6_ n7_; (try clear hb); (try clear hb2); (try clear hk); (try clear hi))); try go_wp2_with (first | (go_at_call 21; (with_reducible refine (zeroone_Solve.calls _ _ t403 _ _ t406 _ _ t409 t424 t427 t428 _ ?side1 ?side2 ?side3 ?side4 ?side5 ?side6 A87.out).mono ?_); (case side1 => exact Ck (Kd.R_reads' HO_414000.out).2.2); (case side2 => exact (Kd.R_reads' HO_414000.out).2.1); (case side3 => exact Ck (Kd.S_reads' HO_414001.out).2.2); (case side4 => exact (Kd.S_reads' HO_414001.out).2.1); (case side5 => exact Ck (Kd.R_reads' HO_414002.out).2.2); (case side6 => exact (Kd.R_reads' HO_414002.out).2.1); rintro e w112 ⟨v425, rfl, ho0, hb⟩; have n0_ := Aside0.mk (Kd.R_elder' (Rk HO_3.out) (Kd.R_base ho0) hb); have n1_ := Aside0.mk (Kd.R_elder' (Rk HO_414000.out) (Kd.R_base ho0) hb); have n2_ := Aside0.mk (Kd.S_elder' (by (with_reducible repeat (first | apply Kd.S_alloc | apply Kd.S_drewN | apply Kd.S_drew)); exact HO_414001.out) (Kd.R_base ho0) hb); have n3_ := Aside0.mk (Kd.R_elder' (Rk HO_414002.out) (Kd.R_base ho0) hb); have n4_ := Aside0.mk (Kd.R_lower (Kd.R_new' (Kd.R_new' (Kd.R_new' ho0 (Kd.R_lt (Rk HO_3.out))) (Kd.R_lt (Rk HO_414000.out))) (Kd.R_lt (Rk HO_414002.out))) (below_size (Bw HB.out))); have n5_ := Aside0.mk (blk_below (g := gb397) (o := .cells #[.slice A0_0 l0_0.length c0_0, .slice A0_1 l0_1.length c0_1, .slice A0_2 l0_2.length c0_2] 25 (0, 0)) (Bk BK397.out) hb); have n6_ := Aside0.mk (blk_below (g := gb413) (o := .cells #[.slice Ao15 t403.length co15, .slice Ao18 t406.length co18, .slice Ao19 t409.length co19] 25 (0, 0)) (Bk BK413.out) hb); have n7_ := Aside0.mk (below_step (Bw HB.out) hb); clear HO_3; clear HO_414000; clear HO_414001; clear HO_414002; clear BK397; clear BK413; clear HB; have HO_3 := n0_; have HO_414000 := n1_; have HO_414001 := n2_; have HO_414002 := n3_; have HO426 := n4_; have BK397 := n5_; have BK413 := n6_; have HB := n7_; clear n0_ n1_ n2_ n3_ n4_ n5_ n6_ n7_; (try clear hb); (try clear hb2); (try clear hk); (try clear hi); (try clear ho0); have hcz113_0 : w112.cell? ⟨gb397, 0, none⟩ = some (.slice A0_0 l0_0.length c0_0) := (blk_cell BK397.out 0).trans rfl; have hcz113_1 : w112.cell? ⟨gb397, 1, none⟩ = some (.slice A0_1 l0_1.length c0_1) := (blk_cell BK397.out 1).trans rfl; have hcz113_2 : w112.cell? ⟨gb397, 2, none⟩ = some (.slice A0_2 l0_2.length c0_2) := (blk_cell BK397.out 2).trans rfl; have hfz113_0 := blk_frozen BK397.out 0; have hfz113_1 := blk_frozen BK397.out 1; have hfz113_2 := blk_frozen BK397.out 2; obtain ⟨Ao114, co114, eo114⟩ := Kd.R_slice HO_3.out; subst eo114) | (go_at_call 16; (with_reducible refine (zeroone_Feasible.calls k2 _ _ l0_0 _ _ l0_1 _ _ l0_2 _ _ t398 true _ ?side1 ?side2 ?side3 ?side4 ?side5 ?side6 ?side7 ?side8 A89.out).mono ?_); (case side1 => exact Ck (Kd.C_below HR0_0.out HB.out)); (case side2 => exact HC0_0.out); (case side3 => exact Ck (Kd.C_below HR0_1.out HB.out)); (case side4 => exact HC0_1.out); (case side5 => exact Ck (Kd.C_below HR0_2.out HB.out)); (case side6 => exact HC0_2.out); (case side7 => exact Ck (Kd.R_reads' HO_3.out).2.2); (case side8 => exact (Kd.R_reads' HO_3.out).2.1); rintro e w115 ⟨rfl, hb⟩; have n0_ := Aside0.mk (Kd.R_below (Rk HO_3.out) hb); have n1_ := Aside0.mk (Kd.R_below (Rk HO_414000.out) hb); have n2_ := Aside0.mk (Kd.S_below (by (with_reducible repeat (first | apply Kd.S_alloc | apply Kd.S_drewN | apply Kd.S_drew)); exact HO_414001.out) hb); have n3_ := Aside0.mk (Kd.R_below (Rk HO_414002.out) hb); have n4_ := Aside0.mk (Kd.R_below (Rk HO426.out) hb); have n5_ := Aside0.mk (blk_below (g := gb397) (o := .cells #[.slice A0_0 l0_0.length c0_0, .slice A0_1 l0_1.length c0_1, .slice A0_2 l0_2.length c0_2] 25 (0, 0)) (Bk BK397.out) hb); have n6_ := Aside0.mk (blk_below (g := gb413) (o := .cells #[.slice Ao15 t403.length co15, .slice Ao18 t406.length co18, .slice Ao19 t409.length co19] 25 (0, 0)) (Bk BK413.out) hb); have n7_ := Aside0.mk (below_step (Bw HB.out) hb); clear HO_3; clear HO_414000; clear HO_414001; clear HO_414002; clear HO426; clear BK397; clear BK413; clear HB; have HO_3 := n0_; have HO_414000 := n1_; have HO_414001 := n2_; have HO_414002 := n3_; have HO426 := n4_; have BK397 := n5_; have BK413 := n6_; have HB := n7_; clear n0_ n1_ n2_ n3_ n4_ n5_ n6_ n7_; (try clear hb); (try clear hb2); (try clear hk); (try clear hi))))
            go_ret
            exact ⟨Es, Bw HB.out⟩
          ·
           replace c90 := Bool.eq_false_iff.mpr c90
           subst c90
           have H1 : (some false) = some r := by rw [if_neg (show ¬ (false = true) by decide)] at H; exact H
           clear H
           have H := H1
           clear H1
           obtain rfl := Option.some.inj H
           have hnb116 := NB397_413.out
           have hnc116 := NB413_397.out
           have hcz117_0 : wr.cell? ⟨gb397, 0, none⟩ = some (.slice A0_0 l0_0.length c0_0) := (blk_cell BK397.out 0).trans rfl
           have hcz117_1 : wr.cell? ⟨gb397, 1, none⟩ = some (.slice A0_1 l0_1.length c0_1) := (blk_cell BK397.out 1).trans rfl
           have hcz117_2 : wr.cell? ⟨gb397, 2, none⟩ = some (.slice A0_2 l0_2.length c0_2) := (blk_cell BK397.out 2).trans rfl
           have hfz117_0 := blk_frozen BK397.out 0
           have hfz117_1 := blk_frozen BK397.out 1
           have hfz117_2 := blk_frozen BK397.out 2
           have hcz118_0 : wr.cell? ⟨gb413, 0, none⟩ = some (.slice Ao15 t403.length co15) := (blk_cell BK413.out 0).trans rfl
           have hcz118_1 : wr.cell? ⟨gb413, 1, none⟩ = some (.slice Ao18 t406.length co18) := (blk_cell BK413.out 1).trans rfl
           have hcz118_2 : wr.cell? ⟨gb413, 2, none⟩ = some (.slice Ao19 t409.length co19) := (blk_cell BK413.out 2).trans rfl
           have hfz118_0 := blk_frozen BK413.out 0
           have hfz118_1 := blk_frozen BK413.out 1
           have hfz118_2 := blk_frozen BK413.out 2
           go_wp2_with (first | (go_at_call 21; (with_reducible refine (zeroone_Solve.calls _ _ t403 _ _ t406 _ _ t409 t424 t427 t428 _ ?side1 ?side2 ?side3 ?side4 ?side5 ?side6 A87.out).mono ?_); (case side1 => exact Ck (Kd.R_reads' HO_414000.out).2.2); (case side2 => exact (Kd.R_reads' HO_414000.out).2.1); (case side3 => exact Ck (Kd.S_reads' HO_414001.out).2.2); (case side4 => exact (Kd.S_reads' HO_414001.out).2.1); (case side5 => exact Ck (Kd.R_reads' HO_414002.out).2.2); (case side6 => exact (Kd.R_reads' HO_414002.out).2.1); rintro e w119 ⟨v425, rfl, ho0, hb⟩; have n0_ := Aside0.mk (Kd.R_elder' (Rk HO_3.out) (Kd.R_base ho0) hb); have n1_ := Aside0.mk (Kd.R_elder' (Rk HO_414000.out) (Kd.R_base ho0) hb); have n2_ := Aside0.mk (Kd.S_elder' (by (with_reducible repeat (first | apply Kd.S_alloc | apply Kd.S_drewN | apply Kd.S_drew)); exact HO_414001.out) (Kd.R_base ho0) hb); have n3_ := Aside0.mk (Kd.R_elder' (Rk HO_414002.out) (Kd.R_base ho0) hb); have n4_ := Aside0.mk (Kd.R_lower (Kd.R_new' (Kd.R_new' (Kd.R_new' ho0 (Kd.R_lt (Rk HO_3.out))) (Kd.R_lt (Rk HO_414000.out))) (Kd.R_lt (Rk HO_414002.out))) (below_size (Bw HB.out))); have n5_ := Aside0.mk (blk_below (g := gb397) (o := .cells #[.slice A0_0 l0_0.length c0_0, .slice A0_1 l0_1.length c0_1, .slice A0_2 l0_2.length c0_2] 25 (0, 0)) (Bk BK397.out) hb); have n6_ := Aside0.mk (blk_below (g := gb413) (o := .cells #[.slice Ao15 t403.length co15, .slice Ao18 t406.length co18, .slice Ao19 t409.length co19] 25 (0, 0)) (Bk BK413.out) hb); have n7_ := Aside0.mk (below_step (Bw HB.out) hb); clear HO_3; clear HO_414000; clear HO_414001; clear HO_414002; clear BK397; clear BK413; clear HB; have HO_3 := n0_; have HO_414000 := n1_; have HO_414001 := n2_; have HO_414002 := n3_; have HO426 := n4_; have BK397 := n5_; have BK413 := n6_; have HB := n7_; clear n0_ n1_ n2_ n3_ n4_ n5_ n6_ n7_; (try clear hb); (try clear hb2); (try clear hk); (try clear hi); (try clear ho0); have hcz120_0 : w119.cell? ⟨gb397, 0, none⟩ = some (.slice A0_0 l0_0.length c0_0) := (blk_cell BK397.out 0).trans rfl; have hcz120_1 : w119.cell? ⟨gb397, 1, none⟩ = some (.slice A0_1 l0_1.length c0_1) := (blk_cell BK397.out 1).trans rfl; have hcz120_2 : w119.cell? ⟨gb397, 2, none⟩ = some (.slice A0_2 l0_2.length c0_2) := (blk_cell BK397.out 2).trans rfl; have hfz120_0 := blk_frozen BK397.out 0; have hfz120_1 := blk_frozen BK397.out 1; have hfz120_2 := blk_frozen BK397.out 2; obtain ⟨Ao121, co121, eo121⟩ := Kd.R_slice HO_3.out; subst eo121) | (go_at_call 16; (with_reducible refine (zeroone_Feasible.calls k2 _ _ l0_0 _ _ l0_1 _ _ l0_2 _ _ t398 false _ ?side1 ?side2 ?side3 ?side4 ?side5 ?side6 ?side7 ?side8 A89.out).mono ?_); (case side1 => exact Ck (Kd.C_below HR0_0.out HB.out)); (case side2 => exact HC0_0.out); (case side3 => exact Ck (Kd.C_below HR0_1.out HB.out)); (case side4 => exact HC0_1.out); (case side5 => exact Ck (Kd.C_below HR0_2.out HB.out)); (case side6 => exact HC0_2.out); (case side7 => exact Ck (Kd.R_reads' HO_3.out).2.2); (case side8 => exact (Kd.R_reads' HO_3.out).2.1); rintro e w122 ⟨rfl, hb⟩; have n0_ := Aside0.mk (Kd.R_below (Rk HO_3.out) hb); have n1_ := Aside0.mk (Kd.R_below (Rk HO_414000.out) hb); have n2_ := Aside0.mk (Kd.S_below (by (with_reducible repeat (first | apply Kd.S_alloc | apply Kd.S_drewN | apply Kd.S_drew)); exact HO_414001.out) hb); have n3_ := Aside0.mk (Kd.R_below (Rk HO_414002.out) hb); have n4_ := Aside0.mk (Kd.R_below (Rk HO426.out) hb); have n5_ := Aside0.mk (blk_below (g := gb397) (o := .cells #[.slice A0_0 l0_0.length c0_0, .slice A0_1 l0_1.length c0_1, .slice A0_2 l0_2.length c0_2] 25 (0, 0)) (Bk BK397.out) hb); have n6_ := Aside0.mk (blk_below (g := gb413) (o := .cells #[.slice Ao15 t403.length co15, .slice Ao18 t406.length co18, .slice Ao19 t409.length co19] 25 (0, 0)) (Bk BK413.out) hb); have n7_ := Aside0.mk (below_step (Bw HB.out) hb); clear HO_3; clear HO_414000; clear HO_414001; clear HO_414002; clear HO426; clear BK397; clear BK413; clear HB; have HO_3 := n0_; have HO_414000 := n1_; have HO_414001 := n2_; have HO_414002 := n3_; have HO426 := n4_; have BK397 := n5_; have BK413 := n6_; have HB := n7_; clear n0_ n1_ n2_ n3_ n4_ n5_ n6_ n7_; (try clear hb); (try clear hb2); (try clear hk); (try clear hi)))
           repeat (go_quiet (first | (go_at_call 21; (with_reducible refine (zeroone_Solve.calls _ _ t403 _ _ t406 _ _ t409 t424 t427 t428 _ ?side1 ?side2 ?side3 ?side4 ?side5 ?side6 A87.out).mono ?_); (case side1 => exact Ck (Kd.R_reads' HO_414000.out).2.2); (case side2 => exact (Kd.R_reads' HO_414000.out).2.1); (case side3 => exact Ck (Kd.S_reads' HO_414001.out).2.2); (case side4 => exact (Kd.S_reads' HO_414001.out).2.1); (case side5 => exact Ck (Kd.R_reads' HO_414002.out).2.2); (case side6 => exact (Kd.R_reads' HO_414002.out).2.1); rintro e w119 ⟨v425, rfl, ho0, hb⟩; have n0_ := Aside0.mk (Kd.R_elder' (Rk HO_3.out) (Kd.R_base ho0) hb); have n1_ := Aside0.mk (Kd.R_elder' (Rk HO_414000.out) (Kd.R_base ho0) hb); have n2_ := Aside0.mk (Kd.S_elder' (by (with_reducible repeat (first | apply Kd.S_alloc | apply Kd.S_drewN | apply Kd.S_drew)); exact HO_414001.out) (Kd.R_base ho0) hb); have n3_ := Aside0.mk (Kd.R_elder' (Rk HO_414002.out) (Kd.R_base ho0) hb); have n4_ := Aside0.mk (Kd.R_lower (Kd.R_new' (Kd.R_new' (Kd.R_new' ho0 (Kd.R_lt (Rk HO_3.out))) (Kd.R_lt (Rk HO_414000.out))) (Kd.R_lt (Rk HO_414002.out))) (below_size (Bw HB.out))); have n5_ := Aside0.mk (blk_below (g := gb397) (o := .cells #[.slice A0_0 l0_0.length c0_0, .slice A0_1 l0_1.length c0_1, .slice A0_2 l0_2.length c0_2] 25 (0, 0)) (Bk BK397.out) hb); have n6_ := Aside0.mk (blk_below (g := gb413) (o := .cells #[.slice Ao15 t403.length co15, .slice Ao18 t406.length co18, .slice Ao19 t409.length co19] 25 (0, 0)) (Bk BK413.out) hb); have n7_ := Aside0.mk (below_step (Bw HB.out) hb); clear HO_3; clear HO_414000; clear HO_414001; clear HO_414002; clear BK397; clear BK413; clear HB; have HO_3 := n0_; have HO_414000 := n1_; have HO_414001 := n2_; have HO_414002 := n3_; have HO426 := n4_; have BK397 := n5_; have BK413 := n6_; have HB := n7_; clear n0_ n1_ n2_ n3_ n4_ n5_ n6_ n7_; (try clear hb); (try clear hb2); (try clear hk); (try clear hi); (try clear ho0); have hcz120_0 : w119.cell? ⟨gb397, 0, none⟩ = some (.slice A0_0 l0_0.length c0_0) := (blk_cell BK397.out 0).trans rfl; have hcz120_1 : w119.cell? ⟨gb397, 1, none⟩ = some (.slice A0_1 l0_1.length c0_1) := (blk_cell BK397.out 1).trans rfl; have hcz120_2 : w119.cell? ⟨gb397, 2, none⟩ = some (.slice A0_2 l0_2.length c0_2) := (blk_cell BK397.out 2).trans rfl; have hfz120_0 := blk_frozen BK397.out 0; have hfz120_1 := blk_frozen BK397.out 1; have hfz120_2 := blk_frozen BK397.out 2; obtain ⟨Ao121, co121, eo121⟩ := Kd.R_slice HO_3.out; subst eo121) | (go_at_call 16; (with_reducible refine (zeroone_Feasible.calls k2 _ _ l0_0 _ _ l0_1 _ _ l0_2 _ _ t398 false _ ?side1 ?side2 ?side3 ?side4 ?side5 ?side6 ?side7 ?side8 A89.out).mono ?_); (case side1 => exact Ck (Kd.C_below HR0_0.out HB.out)); (case side2 => exact HC0_0.out); (case side3 => exact Ck (Kd.C_below HR0_1.out HB.out)); (case side4 => exact HC0_1.out); (case side5 => exact Ck (Kd.C_below HR0_2.out HB.out)); (case side6 => exact HC0_2.out); (case side7 => exact Ck (Kd.R_reads' HO_3.out).2.2); (case side8 => exact (Kd.R_reads' HO_3.out).2.1); rintro e w122 ⟨rfl, hb⟩; have n0_ := Aside0.mk (Kd.R_below (Rk HO_3.out) hb); have n1_ := Aside0.mk (Kd.R_below (Rk HO_414000.out) hb); have n2_ := Aside0.mk (Kd.S_below (by (with_reducible repeat (first | apply Kd.S_alloc | apply Kd.S_drewN | apply Kd.S_drew)); exact HO_414001.out) hb); have n3_ := Aside0.mk (Kd.R_below (Rk HO_414002.out) hb); have n4_ := Aside0.mk (Kd.R_below (Rk HO426.out) hb); have n5_ := Aside0.mk (blk_below (g := gb397) (o := .cells #[.slice A0_0 l0_0.length c0_0, .slice A0_1 l0_1.length c0_1, .slice A0_2 l0_2.length c0_2] 25 (0, 0)) (Bk BK397.out) hb); have n6_ := Aside0.mk (blk_below (g := gb413) (o := .cells #[.slice Ao15 t403.length co15, .slice Ao18 t406.length co18, .slice Ao19 t409.length co19] 25 (0, 0)) (Bk BK413.out) hb); have n7_ := Aside0.mk (below_step (Bw HB.out) hb); clear HO_3; clear HO_414000; clear HO_414001; clear HO_414002; clear HO426; clear BK397; clear BK413; clear HB; have HO_3 := n0_; have HO_414000 := n1_; have HO_414001 := n2_; have HO_414002 := n3_; have HO426 := n4_; have BK397 := n5_; have BK413 := n6_; have HB := n7_; clear n0_ n1_ n2_ n3_ n4_ n5_ n6_ n7_; (try clear hb); (try clear hb2); (try clear hk); (try clear hi))); try go_wp2_with (first | (go_at_call 21; (with_reducible refine (zeroone_Solve.calls _ _ t403 _ _ t406 _ _ t409 t424 t427 t428 _ ?side1 ?side2 ?side3 ?side4 ?side5 ?side6 A87.out).mono ?_); (case side1 => exact Ck (Kd.R_reads' HO_414000.out).2.2); (case side2 => exact (Kd.R_reads' HO_414000.out).2.1); (case side3 => exact Ck (Kd.S_reads' HO_414001.out).2.2); (case side4 => exact (Kd.S_reads' HO_414001.out).2.1); (case side5 => exact Ck (Kd.R_reads' HO_414002.out).2.2); (case side6 => exact (Kd.R_reads' HO_414002.out).2.1); rintro e w119 ⟨v425, rfl, ho0, hb⟩; have n0_ := Aside0.mk (Kd.R_elder' (Rk HO_3.out) (Kd.R_base ho0) hb); have n1_ := Aside0.mk (Kd.R_elder' (Rk HO_414000.out) (Kd.R_base ho0) hb); have n2_ := Aside0.mk (Kd.S_elder' (by (with_reducible repeat (first | apply Kd.S_alloc | apply Kd.S_drewN | apply Kd.S_drew)); exact HO_414001.out) (Kd.R_base ho0) hb); have n3_ := Aside0.mk (Kd.R_elder' (Rk HO_414002.out) (Kd.R_base ho0) hb); have n4_ := Aside0.mk (Kd.R_lower (Kd.R_new' (Kd.R_new' (Kd.R_new' ho0 (Kd.R_lt (Rk HO_3.out))) (Kd.R_lt (Rk HO_414000.out))) (Kd.R_lt (Rk HO_414002.out))) (below_size (Bw HB.out))); have n5_ := Aside0.mk (blk_below (g := gb397) (o := .cells #[.slice A0_0 l0_0.length c0_0, .slice A0_1 l0_1.length c0_1, .slice A0_2 l0_2.length c0_2] 25 (0, 0)) (Bk BK397.out) hb); have n6_ := Aside0.mk (blk_below (g := gb413) (o := .cells #[.slice Ao15 t403.length co15, .slice Ao18 t406.length co18, .slice Ao19 t409.length co19] 25 (0, 0)) (Bk BK413.out) hb); have n7_ := Aside0.mk (below_step (Bw HB.out) hb); clear HO_3; clear HO_414000; clear HO_414001; clear HO_414002; clear BK397; clear BK413; clear HB; have HO_3 := n0_; have HO_414000 := n1_; have HO_414001 := n2_; have HO_414002 := n3_; have HO426 := n4_; have BK397 := n5_; have BK413 := n6_; have HB := n7_; clear n0_ n1_ n2_ n3_ n4_ n5_ n6_ n7_; (try clear hb); (try clear hb2); (try clear hk); (try clear hi); (try clear ho0); have hcz120_0 : w119.cell? ⟨gb397, 0, none⟩ = some (.slice A0_0 l0_0.length c0_0) := (blk_cell BK397.out 0).trans rfl; have hcz120_1 : w119.cell? ⟨gb397, 1, none⟩ = some (.slice A0_1 l0_1.length c0_1) := (blk_cell BK397.out 1).trans rfl; have hcz120_2 : w119.cell? ⟨gb397, 2, none⟩ = some (.slice A0_2 l0_2.length c0_2) := (blk_cell BK397.out 2).trans rfl; have hfz120_0 := blk_frozen BK397.out 0; have hfz120_1 := blk_frozen BK397.out 1; have hfz120_2 := blk_frozen BK397.out 2; obtain ⟨Ao121, co121, eo121⟩ := Kd.R_slice HO_3.out; subst eo121) | (go_at_call 16; (with_reducible refine (zeroone_Feasible.calls k2 _ _ l0_0 _ _ l0_1 _ _ l0_2 _ _ t398 false _ ?side1 ?side2 ?side3 ?side4 ?side5 ?side6 ?side7 ?side8 A89.out).mono ?_); (case side1 => exact Ck (Kd.C_below HR0_0.out HB.out)); (case side2 => exact HC0_0.out); (case side3 => exact Ck (Kd.C_below HR0_1.out HB.out)); (case side4 => exact HC0_1.out); (case side5 => exact Ck (Kd.C_below HR0_2.out HB.out)); (case side6 => exact HC0_2.out); (case side7 => exact Ck (Kd.R_reads' HO_3.out).2.2); (case side8 => exact (Kd.R_reads' HO_3.out).2.1); rintro e w122 ⟨rfl, hb⟩; have n0_ := Aside0.mk (Kd.R_below (Rk HO_3.out) hb); have n1_ := Aside0.mk (Kd.R_below (Rk HO_414000.out) hb); have n2_ := Aside0.mk (Kd.S_below (by (with_reducible repeat (first | apply Kd.S_alloc | apply Kd.S_drewN | apply Kd.S_drew)); exact HO_414001.out) hb); have n3_ := Aside0.mk (Kd.R_below (Rk HO_414002.out) hb); have n4_ := Aside0.mk (Kd.R_below (Rk HO426.out) hb); have n5_ := Aside0.mk (blk_below (g := gb397) (o := .cells #[.slice A0_0 l0_0.length c0_0, .slice A0_1 l0_1.length c0_1, .slice A0_2 l0_2.length c0_2] 25 (0, 0)) (Bk BK397.out) hb); have n6_ := Aside0.mk (blk_below (g := gb413) (o := .cells #[.slice Ao15 t403.length co15, .slice Ao18 t406.length co18, .slice Ao19 t409.length co19] 25 (0, 0)) (Bk BK413.out) hb); have n7_ := Aside0.mk (below_step (Bw HB.out) hb); clear HO_3; clear HO_414000; clear HO_414001; clear HO_414002; clear HO426; clear BK397; clear BK413; clear HB; have HO_3 := n0_; have HO_414000 := n1_; have HO_414001 := n2_; have HO_414002 := n3_; have HO426 := n4_; have BK397 := n5_; have BK413 := n6_; have HB := n7_; clear n0_ n1_ n2_ n3_ n4_ n5_ n6_ n7_; (try clear hb); (try clear hb2); (try clear hk); (try clear hi))))
           go_ret
           exact ⟨Es, Bw HB.out⟩
         ·
          rw [if_neg c88] at H
          have c88b0 : (t402 == 0) = false := beq_eq_false_iff_ne.mpr c88
          have c88b1 : (t402 != 0) = true := bne_iff_ne.mpr c88
          by_cases c123 : t402 = t428
          ·
           rw [if_pos c123] at H
           have c123b0 : (t402 == t428) = true := beq_iff_eq.mpr c123
           have c123b1 : (t402 != t428) = false := bne_eq_false_iff_eq.mpr c123
           clear c123
           by_cases c124 : t401 = t427
           ·
            rw [if_pos c124] at H
            have c124b0 : (t401 == t427) = true := beq_iff_eq.mpr c124
            have c124b1 : (t401 != t427) = false := bne_eq_false_iff_eq.mpr c124
            clear c124
            replace H := Option.bind_eq_some_iff.mp H
            obtain ⟨t431, A1250, H⟩ := H
            replace H : (some t431) = some r := H
            have A125 := Aside0.mk A1250
            clear A1250
            obtain rfl := Option.some.inj H
            have hnb126 := NB397_413.out
            have hnc126 := NB413_397.out
            have hcz127_0 : wr.cell? ⟨gb397, 0, none⟩ = some (.slice A0_0 l0_0.length c0_0) := (blk_cell BK397.out 0).trans rfl
            have hcz127_1 : wr.cell? ⟨gb397, 1, none⟩ = some (.slice A0_1 l0_1.length c0_1) := (blk_cell BK397.out 1).trans rfl
            have hcz127_2 : wr.cell? ⟨gb397, 2, none⟩ = some (.slice A0_2 l0_2.length c0_2) := (blk_cell BK397.out 2).trans rfl
            have hfz127_0 := blk_frozen BK397.out 0
            have hfz127_1 := blk_frozen BK397.out 1
            have hfz127_2 := blk_frozen BK397.out 2
            have hcz128_0 : wr.cell? ⟨gb413, 0, none⟩ = some (.slice Ao15 t403.length co15) := (blk_cell BK413.out 0).trans rfl
            have hcz128_1 : wr.cell? ⟨gb413, 1, none⟩ = some (.slice Ao18 t406.length co18) := (blk_cell BK413.out 1).trans rfl
            have hcz128_2 : wr.cell? ⟨gb413, 2, none⟩ = some (.slice Ao19 t409.length co19) := (blk_cell BK413.out 2).trans rfl
            have hfz128_0 := blk_frozen BK413.out 0
            have hfz128_1 := blk_frozen BK413.out 1
            have hfz128_2 := blk_frozen BK413.out 2
            go_wp2_with (first | (go_at_call 21; (with_reducible refine (zeroone_Solve.calls _ _ t403 _ _ t406 _ _ t409 t424 t427 t428 _ ?side1 ?side2 ?side3 ?side4 ?side5 ?side6 A87.out).mono ?_); (case side1 => exact Ck (Kd.R_reads' HO_414000.out).2.2); (case side2 => exact (Kd.R_reads' HO_414000.out).2.1); (case side3 => exact Ck (Kd.S_reads' HO_414001.out).2.2); (case side4 => exact (Kd.S_reads' HO_414001.out).2.1); (case side5 => exact Ck (Kd.R_reads' HO_414002.out).2.2); (case side6 => exact (Kd.R_reads' HO_414002.out).2.1); rintro e w129 ⟨v425, rfl, ho0, hb⟩; have n0_ := Aside0.mk (Kd.R_elder' (Rk HO_3.out) (Kd.R_base ho0) hb); have n1_ := Aside0.mk (Kd.R_elder' (Rk HO_414000.out) (Kd.R_base ho0) hb); have n2_ := Aside0.mk (Kd.S_elder' (by (with_reducible repeat (first | apply Kd.S_alloc | apply Kd.S_drewN | apply Kd.S_drew)); exact HO_414001.out) (Kd.R_base ho0) hb); have n3_ := Aside0.mk (Kd.R_elder' (Rk HO_414002.out) (Kd.R_base ho0) hb); have n4_ := Aside0.mk (Kd.R_lower (Kd.R_new' (Kd.R_new' (Kd.R_new' ho0 (Kd.R_lt (Rk HO_3.out))) (Kd.R_lt (Rk HO_414000.out))) (Kd.R_lt (Rk HO_414002.out))) (below_size (Bw HB.out))); have n5_ := Aside0.mk (blk_below (g := gb397) (o := .cells #[.slice A0_0 l0_0.length c0_0, .slice A0_1 l0_1.length c0_1, .slice A0_2 l0_2.length c0_2] 25 (0, 0)) (Bk BK397.out) hb); have n6_ := Aside0.mk (blk_below (g := gb413) (o := .cells #[.slice Ao15 t403.length co15, .slice Ao18 t406.length co18, .slice Ao19 t409.length co19] 25 (0, 0)) (Bk BK413.out) hb); have n7_ := Aside0.mk (below_step (Bw HB.out) hb); clear HO_3; clear HO_414000; clear HO_414001; clear HO_414002; clear BK397; clear BK413; clear HB; have HO_3 := n0_; have HO_414000 := n1_; have HO_414001 := n2_; have HO_414002 := n3_; have HO426 := n4_; have BK397 := n5_; have BK413 := n6_; have HB := n7_; clear n0_ n1_ n2_ n3_ n4_ n5_ n6_ n7_; (try clear hb); (try clear hb2); (try clear hk); (try clear hi); (try clear ho0); obtain ⟨Ao130, co130, eo130⟩ := Kd.R_slice HO_3.out; subst eo130; obtain ⟨Ao131, co131, eo131⟩ := Kd.R_slice HO426.out; subst eo131) | (go_at_call 23; (with_reducible refine (examboardlaw34_ints.calls k2 _ _ t398 _ _ t424 t431 _ ?side1 ?side2 ?side3 ?side4 A125.out).mono ?_); (case side1 => exact Ck (Kd.R_reads' HO_3.out).2.2); (case side2 => exact (Kd.R_reads' HO_3.out).2.1); (case side3 => exact Ck (Kd.R_reads' HO426.out).2.2); (case side4 => exact (Kd.R_reads' HO426.out).2.1); rintro e w' ⟨rfl, ⟨nd, rfl⟩⟩; (try first | exact ⟨rfl, _, World.drewN_drewN _ _ _⟩ | exact ⟨rfl, _, Eq.trans (World.drewN_drewN _ _ _) (congrArg (World.drewN _) (Nat.add_assoc _ _ _))⟩)))
            repeat (go_quiet (first | (go_at_call 21; (with_reducible refine (zeroone_Solve.calls _ _ t403 _ _ t406 _ _ t409 t424 t427 t428 _ ?side1 ?side2 ?side3 ?side4 ?side5 ?side6 A87.out).mono ?_); (case side1 => exact Ck (Kd.R_reads' HO_414000.out).2.2); (case side2 => exact (Kd.R_reads' HO_414000.out).2.1); (case side3 => exact Ck (Kd.S_reads' HO_414001.out).2.2); (case side4 => exact (Kd.S_reads' HO_414001.out).2.1); (case side5 => exact Ck (Kd.R_reads' HO_414002.out).2.2); (case side6 => exact (Kd.R_reads' HO_414002.out).2.1); rintro e w129 ⟨v425, rfl, ho0, hb⟩; have n0_ := Aside0.mk (Kd.R_elder' (Rk HO_3.out) (Kd.R_base ho0) hb); have n1_ := Aside0.mk (Kd.R_elder' (Rk HO_414000.out) (Kd.R_base ho0) hb); have n2_ := Aside0.mk (Kd.S_elder' (by (with_reducible repeat (first | apply Kd.S_alloc | apply Kd.S_drewN | apply Kd.S_drew)); exact HO_414001.out) (Kd.R_base ho0) hb); have n3_ := Aside0.mk (Kd.R_elder' (Rk HO_414002.out) (Kd.R_base ho0) hb); have n4_ := Aside0.mk (Kd.R_lower (Kd.R_new' (Kd.R_new' (Kd.R_new' ho0 (Kd.R_lt (Rk HO_3.out))) (Kd.R_lt (Rk HO_414000.out))) (Kd.R_lt (Rk HO_414002.out))) (below_size (Bw HB.out))); have n5_ := Aside0.mk (blk_below (g := gb397) (o := .cells #[.slice A0_0 l0_0.length c0_0, .slice A0_1 l0_1.length c0_1, .slice A0_2 l0_2.length c0_2] 25 (0, 0)) (Bk BK397.out) hb); have n6_ := Aside0.mk (blk_below (g := gb413) (o := .cells #[.slice Ao15 t403.length co15, .slice Ao18 t406.length co18, .slice Ao19 t409.length co19] 25 (0, 0)) (Bk BK413.out) hb); have n7_ := Aside0.mk (below_step (Bw HB.out) hb); clear HO_3; clear HO_414000; clear HO_414001; clear HO_414002; clear BK397; clear BK413; clear HB; have HO_3 := n0_; have HO_414000 := n1_; have HO_414001 := n2_; have HO_414002 := n3_; have HO426 := n4_; have BK397 := n5_; have BK413 := n6_; have HB := n7_; clear n0_ n1_ n2_ n3_ n4_ n5_ n6_ n7_; (try clear hb); (try clear hb2); (try clear hk); (try clear hi); (try clear ho0); obtain ⟨Ao130, co130, eo130⟩ := Kd.R_slice HO_3.out; subst eo130; obtain ⟨Ao131, co131, eo131⟩ := Kd.R_slice HO426.out; subst eo131) | (go_at_call 23; (with_reducible refine (examboardlaw34_ints.calls k2 _ _ t398 _ _ t424 t431 _ ?side1 ?side2 ?side3 ?side4 A125.out).mono ?_); (case side1 => exact Ck (Kd.R_reads' HO_3.out).2.2); (case side2 => exact (Kd.R_reads' HO_3.out).2.1); (case side3 => exact Ck (Kd.R_reads' HO426.out).2.2); (case side4 => exact (Kd.R_reads' HO426.out).2.1); rintro e w' ⟨rfl, ⟨nd, rfl⟩⟩; (try first | exact ⟨rfl, _, World.drewN_drewN _ _ _⟩ | exact ⟨rfl, _, Eq.trans (World.drewN_drewN _ _ _) (congrArg (World.drewN _) (Nat.add_assoc _ _ _))⟩))); try go_wp2_with (first | (go_at_call 21; (with_reducible refine (zeroone_Solve.calls _ _ t403 _ _ t406 _ _ t409 t424 t427 t428 _ ?side1 ?side2 ?side3 ?side4 ?side5 ?side6 A87.out).mono ?_); (case side1 => exact Ck (Kd.R_reads' HO_414000.out).2.2); (case side2 => exact (Kd.R_reads' HO_414000.out).2.1); (case side3 => exact Ck (Kd.S_reads' HO_414001.out).2.2); (case side4 => exact (Kd.S_reads' HO_414001.out).2.1); (case side5 => exact Ck (Kd.R_reads' HO_414002.out).2.2); (case side6 => exact (Kd.R_reads' HO_414002.out).2.1); rintro e w129 ⟨v425, rfl, ho0, hb⟩; have n0_ := Aside0.mk (Kd.R_elder' (Rk HO_3.out) (Kd.R_base ho0) hb); have n1_ := Aside0.mk (Kd.R_elder' (Rk HO_414000.out) (Kd.R_base ho0) hb); have n2_ := Aside0.mk (Kd.S_elder' (by (with_reducible repeat (first | apply Kd.S_alloc | apply Kd.S_drewN | apply Kd.S_drew)); exact HO_414001.out) (Kd.R_base ho0) hb); have n3_ := Aside0.mk (Kd.R_elder' (Rk HO_414002.out) (Kd.R_base ho0) hb); have n4_ := Aside0.mk (Kd.R_lower (Kd.R_new' (Kd.R_new' (Kd.R_new' ho0 (Kd.R_lt (Rk HO_3.out))) (Kd.R_lt (Rk HO_414000.out))) (Kd.R_lt (Rk HO_414002.out))) (below_size (Bw HB.out))); have n5_ := Aside0.mk (blk_below (g := gb397) (o := .cells #[.slice A0_0 l0_0.length c0_0, .slice A0_1 l0_1.length c0_1, .slice A0_2 l0_2.length c0_2] 25 (0, 0)) (Bk BK397.out) hb); have n6_ := Aside0.mk (blk_below (g := gb413) (o := .cells #[.slice Ao15 t403.length co15, .slice Ao18 t406.length co18, .slice Ao19 t409.length co19] 25 (0, 0)) (Bk BK413.out) hb); have n7_ := Aside0.mk (below_step (Bw HB.out) hb); clear HO_3; clear HO_414000; clear HO_414001; clear HO_414002; clear BK397; clear BK413; clear HB; have HO_3 := n0_; have HO_414000 := n1_; have HO_414001 := n2_; have HO_414002 := n3_; have HO426 := n4_; have BK397 := n5_; have BK413 := n6_; have HB := n7_; clear n0_ n1_ n2_ n3_ n4_ n5_ n6_ n7_; (try clear hb); (try clear hb2); (try clear hk); (try clear hi); (try clear ho0); obtain ⟨Ao130, co130, eo130⟩ := Kd.R_slice HO_3.out; subst eo130; obtain ⟨Ao131, co131, eo131⟩ := Kd.R_slice HO426.out; subst eo131) | (go_at_call 23; (with_reducible refine (examboardlaw34_ints.calls k2 _ _ t398 _ _ t424 t431 _ ?side1 ?side2 ?side3 ?side4 A125.out).mono ?_); (case side1 => exact Ck (Kd.R_reads' HO_3.out).2.2); (case side2 => exact (Kd.R_reads' HO_3.out).2.1); (case side3 => exact Ck (Kd.R_reads' HO426.out).2.2); (case side4 => exact (Kd.R_reads' HO426.out).2.1); rintro e w' ⟨rfl, ⟨nd, rfl⟩⟩; (try first | exact ⟨rfl, _, World.drewN_drewN _ _ _⟩ | exact ⟨rfl, _, Eq.trans (World.drewN_drewN _ _ _) (congrArg (World.drewN _) (Nat.add_assoc _ _ _))⟩))))
            go_ret
            exact ⟨Es, Bw HB.out⟩
           ·
            rw [if_neg c124] at H
            have c124b0 : (t401 == t427) = false := beq_eq_false_iff_ne.mpr c124
            have c124b1 : (t401 != t427) = true := bne_iff_ne.mpr c124
            obtain rfl := Option.some.inj H
            have hnb132 := NB397_413.out
            have hnc132 := NB413_397.out
            have hcz133_0 : wr.cell? ⟨gb397, 0, none⟩ = some (.slice A0_0 l0_0.length c0_0) := (blk_cell BK397.out 0).trans rfl
            have hcz133_1 : wr.cell? ⟨gb397, 1, none⟩ = some (.slice A0_1 l0_1.length c0_1) := (blk_cell BK397.out 1).trans rfl
            have hcz133_2 : wr.cell? ⟨gb397, 2, none⟩ = some (.slice A0_2 l0_2.length c0_2) := (blk_cell BK397.out 2).trans rfl
            have hfz133_0 := blk_frozen BK397.out 0
            have hfz133_1 := blk_frozen BK397.out 1
            have hfz133_2 := blk_frozen BK397.out 2
            have hcz134_0 : wr.cell? ⟨gb413, 0, none⟩ = some (.slice Ao15 t403.length co15) := (blk_cell BK413.out 0).trans rfl
            have hcz134_1 : wr.cell? ⟨gb413, 1, none⟩ = some (.slice Ao18 t406.length co18) := (blk_cell BK413.out 1).trans rfl
            have hcz134_2 : wr.cell? ⟨gb413, 2, none⟩ = some (.slice Ao19 t409.length co19) := (blk_cell BK413.out 2).trans rfl
            have hfz134_0 := blk_frozen BK413.out 0
            have hfz134_1 := blk_frozen BK413.out 1
            have hfz134_2 := blk_frozen BK413.out 2
            go_wp2_with (first | (go_at_call 21; (with_reducible refine (zeroone_Solve.calls _ _ t403 _ _ t406 _ _ t409 t424 t427 t428 _ ?side1 ?side2 ?side3 ?side4 ?side5 ?side6 A87.out).mono ?_); (case side1 => exact Ck (Kd.R_reads' HO_414000.out).2.2); (case side2 => exact (Kd.R_reads' HO_414000.out).2.1); (case side3 => exact Ck (Kd.S_reads' HO_414001.out).2.2); (case side4 => exact (Kd.S_reads' HO_414001.out).2.1); (case side5 => exact Ck (Kd.R_reads' HO_414002.out).2.2); (case side6 => exact (Kd.R_reads' HO_414002.out).2.1); rintro e w135 ⟨v425, rfl, ho0, hb⟩; have n0_ := Aside0.mk (Kd.R_elder' (Rk HO_3.out) (Kd.R_base ho0) hb); have n1_ := Aside0.mk (Kd.R_elder' (Rk HO_414000.out) (Kd.R_base ho0) hb); have n2_ := Aside0.mk (Kd.S_elder' (by (with_reducible repeat (first | apply Kd.S_alloc | apply Kd.S_drewN | apply Kd.S_drew)); exact HO_414001.out) (Kd.R_base ho0) hb); have n3_ := Aside0.mk (Kd.R_elder' (Rk HO_414002.out) (Kd.R_base ho0) hb); have n4_ := Aside0.mk (Kd.R_lower (Kd.R_new' (Kd.R_new' (Kd.R_new' ho0 (Kd.R_lt (Rk HO_3.out))) (Kd.R_lt (Rk HO_414000.out))) (Kd.R_lt (Rk HO_414002.out))) (below_size (Bw HB.out))); have n5_ := Aside0.mk (blk_below (g := gb397) (o := .cells #[.slice A0_0 l0_0.length c0_0, .slice A0_1 l0_1.length c0_1, .slice A0_2 l0_2.length c0_2] 25 (0, 0)) (Bk BK397.out) hb); have n6_ := Aside0.mk (blk_below (g := gb413) (o := .cells #[.slice Ao15 t403.length co15, .slice Ao18 t406.length co18, .slice Ao19 t409.length co19] 25 (0, 0)) (Bk BK413.out) hb); have n7_ := Aside0.mk (below_step (Bw HB.out) hb); clear HO_3; clear HO_414000; clear HO_414001; clear HO_414002; clear BK397; clear BK413; clear HB; have HO_3 := n0_; have HO_414000 := n1_; have HO_414001 := n2_; have HO_414002 := n3_; have HO426 := n4_; have BK397 := n5_; have BK413 := n6_; have HB := n7_; clear n0_ n1_ n2_ n3_ n4_ n5_ n6_ n7_; (try clear hb); (try clear hb2); (try clear hk); (try clear hi); (try clear ho0)))
            repeat (go_quiet (first | (go_at_call 21; (with_reducible refine (zeroone_Solve.calls _ _ t403 _ _ t406 _ _ t409 t424 t427 t428 _ ?side1 ?side2 ?side3 ?side4 ?side5 ?side6 A87.out).mono ?_); (case side1 => exact Ck (Kd.R_reads' HO_414000.out).2.2); (case side2 => exact (Kd.R_reads' HO_414000.out).2.1); (case side3 => exact Ck (Kd.S_reads' HO_414001.out).2.2); (case side4 => exact (Kd.S_reads' HO_414001.out).2.1); (case side5 => exact Ck (Kd.R_reads' HO_414002.out).2.2); (case side6 => exact (Kd.R_reads' HO_414002.out).2.1); rintro e w135 ⟨v425, rfl, ho0, hb⟩; have n0_ := Aside0.mk (Kd.R_elder' (Rk HO_3.out) (Kd.R_base ho0) hb); have n1_ := Aside0.mk (Kd.R_elder' (Rk HO_414000.out) (Kd.R_base ho0) hb); have n2_ := Aside0.mk (Kd.S_elder' (by (with_reducible repeat (first | apply Kd.S_alloc | apply Kd.S_drewN | apply Kd.S_drew)); exact HO_414001.out) (Kd.R_base ho0) hb); have n3_ := Aside0.mk (Kd.R_elder' (Rk HO_414002.out) (Kd.R_base ho0) hb); have n4_ := Aside0.mk (Kd.R_lower (Kd.R_new' (Kd.R_new' (Kd.R_new' ho0 (Kd.R_lt (Rk HO_3.out))) (Kd.R_lt (Rk HO_414000.out))) (Kd.R_lt (Rk HO_414002.out))) (below_size (Bw HB.out))); have n5_ := Aside0.mk (blk_below (g := gb397) (o := .cells #[.slice A0_0 l0_0.length c0_0, .slice A0_1 l0_1.length c0_1, .slice A0_2 l0_2.length c0_2] 25 (0, 0)) (Bk BK397.out) hb); have n6_ := Aside0.mk (blk_below (g := gb413) (o := .cells #[.slice Ao15 t403.length co15, .slice Ao18 t406.length co18, .slice Ao19 t409.length co19] 25 (0, 0)) (Bk BK413.out) hb); have n7_ := Aside0.mk (below_step (Bw HB.out) hb); clear HO_3; clear HO_414000; clear HO_414001; clear HO_414002; clear BK397; clear BK413; clear HB; have HO_3 := n0_; have HO_414000 := n1_; have HO_414001 := n2_; have HO_414002 := n3_; have HO426 := n4_; have BK397 := n5_; have BK413 := n6_; have HB := n7_; clear n0_ n1_ n2_ n3_ n4_ n5_ n6_ n7_; (try clear hb); (try clear hb2); (try clear hk); (try clear hi); (try clear ho0))); try go_wp2_with (first | (go_at_call 21; (with_reducible refine (zeroone_Solve.calls _ _ t403 _ _ t406 _ _ t409 t424 t427 t428 _ ?side1 ?side2 ?side3 ?side4 ?side5 ?side6 A87.out).mono ?_); (case side1 => exact Ck (Kd.R_reads' HO_414000.out).2.2); (case side2 => exact (Kd.R_reads' HO_414000.out).2.1); (case side3 => exact Ck (Kd.S_reads' HO_414001.out).2.2); (case side4 => exact (Kd.S_reads' HO_414001.out).2.1); (case side5 => exact Ck (Kd.R_reads' HO_414002.out).2.2); (case side6 => exact (Kd.R_reads' HO_414002.out).2.1); rintro e w135 ⟨v425, rfl, ho0, hb⟩; have n0_ := Aside0.mk (Kd.R_elder' (Rk HO_3.out) (Kd.R_base ho0) hb); have n1_ := Aside0.mk (Kd.R_elder' (Rk HO_414000.out) (Kd.R_base ho0) hb); have n2_ := Aside0.mk (Kd.S_elder' (by (with_reducible repeat (first | apply Kd.S_alloc | apply Kd.S_drewN | apply Kd.S_drew)); exact HO_414001.out) (Kd.R_base ho0) hb); have n3_ := Aside0.mk (Kd.R_elder' (Rk HO_414002.out) (Kd.R_base ho0) hb); have n4_ := Aside0.mk (Kd.R_lower (Kd.R_new' (Kd.R_new' (Kd.R_new' ho0 (Kd.R_lt (Rk HO_3.out))) (Kd.R_lt (Rk HO_414000.out))) (Kd.R_lt (Rk HO_414002.out))) (below_size (Bw HB.out))); have n5_ := Aside0.mk (blk_below (g := gb397) (o := .cells #[.slice A0_0 l0_0.length c0_0, .slice A0_1 l0_1.length c0_1, .slice A0_2 l0_2.length c0_2] 25 (0, 0)) (Bk BK397.out) hb); have n6_ := Aside0.mk (blk_below (g := gb413) (o := .cells #[.slice Ao15 t403.length co15, .slice Ao18 t406.length co18, .slice Ao19 t409.length co19] 25 (0, 0)) (Bk BK413.out) hb); have n7_ := Aside0.mk (below_step (Bw HB.out) hb); clear HO_3; clear HO_414000; clear HO_414001; clear HO_414002; clear BK397; clear BK413; clear HB; have HO_3 := n0_; have HO_414000 := n1_; have HO_414001 := n2_; have HO_414002 := n3_; have HO426 := n4_; have BK397 := n5_; have BK413 := n6_; have HB := n7_; clear n0_ n1_ n2_ n3_ n4_ n5_ n6_ n7_; (try clear hb); (try clear hb2); (try clear hk); (try clear hi); (try clear ho0))))
            go_ret
            exact ⟨Es, Bw HB.out⟩
          ·
           rw [if_neg c123] at H
           have c123b0 : (t402 == t428) = false := beq_eq_false_iff_ne.mpr c123
           have c123b1 : (t402 != t428) = true := bne_iff_ne.mpr c123
           obtain rfl := Option.some.inj H
           have hnb136 := NB397_413.out
           have hnc136 := NB413_397.out
           have hcz137_0 : wr.cell? ⟨gb397, 0, none⟩ = some (.slice A0_0 l0_0.length c0_0) := (blk_cell BK397.out 0).trans rfl
           have hcz137_1 : wr.cell? ⟨gb397, 1, none⟩ = some (.slice A0_1 l0_1.length c0_1) := (blk_cell BK397.out 1).trans rfl
           have hcz137_2 : wr.cell? ⟨gb397, 2, none⟩ = some (.slice A0_2 l0_2.length c0_2) := (blk_cell BK397.out 2).trans rfl
           have hfz137_0 := blk_frozen BK397.out 0
           have hfz137_1 := blk_frozen BK397.out 1
           have hfz137_2 := blk_frozen BK397.out 2
           have hcz138_0 : wr.cell? ⟨gb413, 0, none⟩ = some (.slice Ao15 t403.length co15) := (blk_cell BK413.out 0).trans rfl
           have hcz138_1 : wr.cell? ⟨gb413, 1, none⟩ = some (.slice Ao18 t406.length co18) := (blk_cell BK413.out 1).trans rfl
           have hcz138_2 : wr.cell? ⟨gb413, 2, none⟩ = some (.slice Ao19 t409.length co19) := (blk_cell BK413.out 2).trans rfl
           have hfz138_0 := blk_frozen BK413.out 0
           have hfz138_1 := blk_frozen BK413.out 1
           have hfz138_2 := blk_frozen BK413.out 2
           go_wp2_with (first | (go_at_call 21; (with_reducible refine (zeroone_Solve.calls _ _ t403 _ _ t406 _ _ t409 t424 t427 t428 _ ?side1 ?side2 ?side3 ?side4 ?side5 ?side6 A87.out).mono ?_); (case side1 => exact Ck (Kd.R_reads' HO_414000.out).2.2); (case side2 => exact (Kd.R_reads' HO_414000.out).2.1); (case side3 => exact Ck (Kd.S_reads' HO_414001.out).2.2); (case side4 => exact (Kd.S_reads' HO_414001.out).2.1); (case side5 => exact Ck (Kd.R_reads' HO_414002.out).2.2); (case side6 => exact (Kd.R_reads' HO_414002.out).2.1); rintro e w139 ⟨v425, rfl, ho0, hb⟩; have n0_ := Aside0.mk (Kd.R_elder' (Rk HO_3.out) (Kd.R_base ho0) hb); have n1_ := Aside0.mk (Kd.R_elder' (Rk HO_414000.out) (Kd.R_base ho0) hb); have n2_ := Aside0.mk (Kd.S_elder' (by (with_reducible repeat (first | apply Kd.S_alloc | apply Kd.S_drewN | apply Kd.S_drew)); exact HO_414001.out) (Kd.R_base ho0) hb); have n3_ := Aside0.mk (Kd.R_elder' (Rk HO_414002.out) (Kd.R_base ho0) hb); have n4_ := Aside0.mk (Kd.R_lower (Kd.R_new' (Kd.R_new' (Kd.R_new' ho0 (Kd.R_lt (Rk HO_3.out))) (Kd.R_lt (Rk HO_414000.out))) (Kd.R_lt (Rk HO_414002.out))) (below_size (Bw HB.out))); have n5_ := Aside0.mk (blk_below (g := gb397) (o := .cells #[.slice A0_0 l0_0.length c0_0, .slice A0_1 l0_1.length c0_1, .slice A0_2 l0_2.length c0_2] 25 (0, 0)) (Bk BK397.out) hb); have n6_ := Aside0.mk (blk_below (g := gb413) (o := .cells #[.slice Ao15 t403.length co15, .slice Ao18 t406.length co18, .slice Ao19 t409.length co19] 25 (0, 0)) (Bk BK413.out) hb); have n7_ := Aside0.mk (below_step (Bw HB.out) hb); clear HO_3; clear HO_414000; clear HO_414001; clear HO_414002; clear BK397; clear BK413; clear HB; have HO_3 := n0_; have HO_414000 := n1_; have HO_414001 := n2_; have HO_414002 := n3_; have HO426 := n4_; have BK397 := n5_; have BK413 := n6_; have HB := n7_; clear n0_ n1_ n2_ n3_ n4_ n5_ n6_ n7_; (try clear hb); (try clear hb2); (try clear hk); (try clear hi); (try clear ho0)))
           repeat (go_quiet (first | (go_at_call 21; (with_reducible refine (zeroone_Solve.calls _ _ t403 _ _ t406 _ _ t409 t424 t427 t428 _ ?side1 ?side2 ?side3 ?side4 ?side5 ?side6 A87.out).mono ?_); (case side1 => exact Ck (Kd.R_reads' HO_414000.out).2.2); (case side2 => exact (Kd.R_reads' HO_414000.out).2.1); (case side3 => exact Ck (Kd.S_reads' HO_414001.out).2.2); (case side4 => exact (Kd.S_reads' HO_414001.out).2.1); (case side5 => exact Ck (Kd.R_reads' HO_414002.out).2.2); (case side6 => exact (Kd.R_reads' HO_414002.out).2.1); rintro e w139 ⟨v425, rfl, ho0, hb⟩; have n0_ := Aside0.mk (Kd.R_elder' (Rk HO_3.out) (Kd.R_base ho0) hb); have n1_ := Aside0.mk (Kd.R_elder' (Rk HO_414000.out) (Kd.R_base ho0) hb); have n2_ := Aside0.mk (Kd.S_elder' (by (with_reducible repeat (first | apply Kd.S_alloc | apply Kd.S_drewN | apply Kd.S_drew)); exact HO_414001.out) (Kd.R_base ho0) hb); have n3_ := Aside0.mk (Kd.R_elder' (Rk HO_414002.out) (Kd.R_base ho0) hb); have n4_ := Aside0.mk (Kd.R_lower (Kd.R_new' (Kd.R_new' (Kd.R_new' ho0 (Kd.R_lt (Rk HO_3.out))) (Kd.R_lt (Rk HO_414000.out))) (Kd.R_lt (Rk HO_414002.out))) (below_size (Bw HB.out))); have n5_ := Aside0.mk (blk_below (g := gb397) (o := .cells #[.slice A0_0 l0_0.length c0_0, .slice A0_1 l0_1.length c0_1, .slice A0_2 l0_2.length c0_2] 25 (0, 0)) (Bk BK397.out) hb); have n6_ := Aside0.mk (blk_below (g := gb413) (o := .cells #[.slice Ao15 t403.length co15, .slice Ao18 t406.length co18, .slice Ao19 t409.length co19] 25 (0, 0)) (Bk BK413.out) hb); have n7_ := Aside0.mk (below_step (Bw HB.out) hb); clear HO_3; clear HO_414000; clear HO_414001; clear HO_414002; clear BK397; clear BK413; clear HB; have HO_3 := n0_; have HO_414000 := n1_; have HO_414001 := n2_; have HO_414002 := n3_; have HO426 := n4_; have BK397 := n5_; have BK413 := n6_; have HB := n7_; clear n0_ n1_ n2_ n3_ n4_ n5_ n6_ n7_; (try clear hb); (try clear hb2); (try clear hk); (try clear hi); (try clear ho0))); try go_wp2_with (first | (go_at_call 21; (with_reducible refine (zeroone_Solve.calls _ _ t403 _ _ t406 _ _ t409 t424 t427 t428 _ ?side1 ?side2 ?side3 ?side4 ?side5 ?side6 A87.out).mono ?_); (case side1 => exact Ck (Kd.R_reads' HO_414000.out).2.2); (case side2 => exact (Kd.R_reads' HO_414000.out).2.1); (case side3 => exact Ck (Kd.S_reads' HO_414001.out).2.2); (case side4 => exact (Kd.S_reads' HO_414001.out).2.1); (case side5 => exact Ck (Kd.R_reads' HO_414002.out).2.2); (case side6 => exact (Kd.R_reads' HO_414002.out).2.1); rintro e w139 ⟨v425, rfl, ho0, hb⟩; have n0_ := Aside0.mk (Kd.R_elder' (Rk HO_3.out) (Kd.R_base ho0) hb); have n1_ := Aside0.mk (Kd.R_elder' (Rk HO_414000.out) (Kd.R_base ho0) hb); have n2_ := Aside0.mk (Kd.S_elder' (by (with_reducible repeat (first | apply Kd.S_alloc | apply Kd.S_drewN | apply Kd.S_drew)); exact HO_414001.out) (Kd.R_base ho0) hb); have n3_ := Aside0.mk (Kd.R_elder' (Rk HO_414002.out) (Kd.R_base ho0) hb); have n4_ := Aside0.mk (Kd.R_lower (Kd.R_new' (Kd.R_new' (Kd.R_new' ho0 (Kd.R_lt (Rk HO_3.out))) (Kd.R_lt (Rk HO_414000.out))) (Kd.R_lt (Rk HO_414002.out))) (below_size (Bw HB.out))); have n5_ := Aside0.mk (blk_below (g := gb397) (o := .cells #[.slice A0_0 l0_0.length c0_0, .slice A0_1 l0_1.length c0_1, .slice A0_2 l0_2.length c0_2] 25 (0, 0)) (Bk BK397.out) hb); have n6_ := Aside0.mk (blk_below (g := gb413) (o := .cells #[.slice Ao15 t403.length co15, .slice Ao18 t406.length co18, .slice Ao19 t409.length co19] 25 (0, 0)) (Bk BK413.out) hb); have n7_ := Aside0.mk (below_step (Bw HB.out) hb); clear HO_3; clear HO_414000; clear HO_414001; clear HO_414002; clear BK397; clear BK413; clear HB; have HO_3 := n0_; have HO_414000 := n1_; have HO_414001 := n2_; have HO_414002 := n3_; have HO426 := n4_; have BK397 := n5_; have BK413 := n6_; have HB := n7_; clear n0_ n1_ n2_ n3_ n4_ n5_ n6_ n7_; (try clear hb); (try clear hb2); (try clear hk); (try clear hi); (try clear ho0))))
           go_ret
           exact ⟨Es, Bw HB.out⟩
  ·
   rw [if_neg c7] at H
   have c7b0 : (t412 == 0) = false := beq_eq_false_iff_ne.mpr c7
   have c7b1 : (t412 != 0) = true := bne_iff_ne.mpr c7
   obtain rfl := Option.some.inj H
   go_enter Try.func9, Try.ntmps9
   go_wp2_with (first | ((with_reducible refine gate_dst (N := 1) rfl ?_); (try (refine gate_guard (by rfl) ?_; dsimp only)); refine box_event ?hg (N := 1) ?hd (cs := #[.slice A0_0 l0_0.length c0_0, .slice A0_1 l0_1.length c0_1, .slice A0_2 l0_2.length c0_2]) (t := 25) ?hr ?_; (case hd => rfl); (case hg => rfl); (case hr => first | (go_simp; done) | (go_simp; rfl)); intro gb397 hg w140 hbox hb; have n0_ := Aside0.mk (below_step (Bw HB.out) hb); have n1_ := Aside0.mk (hbox); have n2_ := Aside0.mk (Gs hg (Bw HB.out)); have n3_ := Aside0.mk (Gs hg (Bw HB.out)); clear HB; have HB := n0_; have BK397 := n1_; have GW397 := n2_; have GE397 := n3_; clear n0_ n1_ n2_ n3_; clear hb hbox hg; have hcz141_0 : w140.cell? ⟨gb397, 0, none⟩ = some (.slice A0_0 l0_0.length c0_0) := (blk_cell BK397.out 0).trans rfl; have hcz141_1 : w140.cell? ⟨gb397, 1, none⟩ = some (.slice A0_1 l0_1.length c0_1) := (blk_cell BK397.out 1).trans rfl; have hcz141_2 : w140.cell? ⟨gb397, 2, none⟩ = some (.slice A0_2 l0_2.length c0_2) := (blk_cell BK397.out 2).trans rfl; have hfz141_0 := blk_frozen BK397.out 0; have hfz141_1 := blk_frozen BK397.out 1; have hfz141_2 := blk_frozen BK397.out 2) | (go_at_call 21; (with_reducible refine (zeroone_Solve.calls _ _ l0_0 _ _ l0_1 _ _ l0_2 t398 t401 t402 _ ?side1 ?side2 ?side3 ?side4 ?side5 ?side6 A5.out).mono ?_); (case side1 => exact Ck (Kd.C_below HR0_0.out HB.out)); (case side2 => exact HC0_0.out); (case side3 => exact Ck (Kd.C_below HR0_1.out HB.out)); (case side4 => exact HC0_1.out); (case side5 => exact Ck (Kd.C_below HR0_2.out HB.out)); (case side6 => exact HC0_2.out); rintro e w142 ⟨v399, rfl, ho0, hb⟩; have n0_ := Aside0.mk (Kd.R_lower ho0 (below_size (Bw HB.out))); have n1_ := Aside0.mk (blk_below (g := gb397) (o := .cells #[.slice A0_0 l0_0.length c0_0, .slice A0_1 l0_1.length c0_1, .slice A0_2 l0_2.length c0_2] 25 (0, 0)) (Bk BK397.out) hb); have n2_ := Aside0.mk (below_step (Bw HB.out) hb); clear BK397; clear HB; have HO400 := n0_; have BK397 := n1_; have HB := n2_; clear n0_ n1_ n2_; (try clear hb); (try clear hb2); (try clear hk); (try clear hi); (try clear ho0); have hcz143_0 : w142.cell? ⟨gb397, 0, none⟩ = some (.slice A0_0 l0_0.length c0_0) := (blk_cell BK397.out 0).trans rfl; have hcz143_1 : w142.cell? ⟨gb397, 1, none⟩ = some (.slice A0_1 l0_1.length c0_1) := (blk_cell BK397.out 1).trans rfl; have hcz143_2 : w142.cell? ⟨gb397, 2, none⟩ = some (.slice A0_2 l0_2.length c0_2) := (blk_cell BK397.out 2).trans rfl; have hfz143_0 := blk_frozen BK397.out 0; have hfz143_1 := blk_frozen BK397.out 1; have hfz143_2 := blk_frozen BK397.out 2) | (go_at_call 18; (with_reducible refine (zeroone_Tighten.calls k _ _ l0_0 _ _ l0_1 _ _ l0_2 t403 t406 t409 t412 _ ?side1 ?side2 ?side3 ?side4 ?side5 ?side6 A6.out).mono ?_); (case side1 => exact Ck (Kd.C_below HR0_0.out HB.out)); (case side2 => exact HC0_0.out); (case side3 => exact Ck (Kd.C_below HR0_1.out HB.out)); (case side4 => exact HC0_1.out); (case side5 => exact Ck (Kd.C_below HR0_2.out HB.out)); (case side6 => exact HC0_2.out); rintro e w144 ⟨v404, v407, v410, rfl, ho0, ho1, ho2, hb⟩; have n0_ := Aside0.mk (Kd.R_mono (Kd.R_told (Kd.R_told (Kd.R_old (Rk HO400.out) hb) (Kd.R_base ho0)) (Kd.R_base ho2)) (fun _ h_ => h_.1)); have n1_ := Aside0.mk (Kd.R_lower (Kd.R_new' ho0 (Kd.R_lt (Rk HO400.out))) (below_size (Bw HB.out))); have n2_ := Aside0.mk (Kd.S_lower (Kd.S_new' ho1 (Kd.R_lt (Rk HO400.out))) (below_size (Bw HB.out))); have n3_ := Aside0.mk (Kd.R_lower (Kd.R_new' ho2 (Kd.R_lt (Rk HO400.out))) (below_size (Bw HB.out))); have n4_ := Aside0.mk (blk_below (g := gb397) (o := .cells #[.slice A0_0 l0_0.length c0_0, .slice A0_1 l0_1.length c0_1, .slice A0_2 l0_2.length c0_2] 25 (0, 0)) (Bk BK397.out) hb); have n5_ := Aside0.mk (below_step (Bw HB.out) hb); clear HO400; clear BK397; clear HB; have HO400 := n0_; have HO405 := n1_; have HO408 := n2_; have HO411 := n3_; have BK397 := n4_; have HB := n5_; clear n0_ n1_ n2_ n3_ n4_ n5_; (try clear hb); (try clear hb2); (try clear hk); (try clear hi); (try clear ho0); (try clear ho1); (try clear ho2)) | ((with_reducible refine gate_dst (N := 6) rfl ?_); (try (refine gate_guard (by rfl) ?_; dsimp only)); refine box_event ?hg (N := 6) ?hd (cs := #[.slice none 0 0, .slice none 0 0, .slice none 0 0]) (t := 25) ?hr ?_; (case hd => rfl); (case hg => rfl); (case hr => first | (go_simp; done) | (go_simp; rfl)); intro gb413 hg w145 hbox hb; have n0_ := Aside0.mk (Kd.R_below (Rk HO400.out) hb); have n1_ := Aside0.mk (Kd.R_below (Rk HO405.out) hb); have n2_ := Aside0.mk (Kd.S_below (by (with_reducible repeat (first | apply Kd.S_alloc | apply Kd.S_drewN | apply Kd.S_drew)); exact HO408.out) hb); have n3_ := Aside0.mk (Kd.R_below (Rk HO411.out) hb); have n4_ := Aside0.mk (blk_below (g := gb397) (o := .cells #[.slice A0_0 l0_0.length c0_0, .slice A0_1 l0_1.length c0_1, .slice A0_2 l0_2.length c0_2] 25 (0, 0)) (Bk BK397.out) hb); have n5_ := Aside0.mk (below_step (Bw HB.out) hb); have n6_ := Aside0.mk (hbox); have n7_ := Aside0.mk (Gs hg (Bw HB.out)); have n8_ := Aside0.mk (Gs hg (Bw HB.out)); have n9_ := Aside0.mk ((by rw [hg]; exact Nat.ne_of_lt (blk_lt (g := gb397) (o := .cells #[.slice A0_0 l0_0.length c0_0, .slice A0_1 l0_1.length c0_1, .slice A0_2 l0_2.length c0_2] 25 (0, 0)) (Bk BK397.out)) : gb397 ≠ gb413)); have n10_ := Aside0.mk ((by rw [hg]; exact Nat.ne_of_gt (blk_lt (g := gb397) (o := .cells #[.slice A0_0 l0_0.length c0_0, .slice A0_1 l0_1.length c0_1, .slice A0_2 l0_2.length c0_2] 25 (0, 0)) (Bk BK397.out)) : gb413 ≠ gb397)); clear HO400; clear HO405; clear HO408; clear HO411; clear BK397; clear HB; have HO400 := n0_; have HO405 := n1_; have HO408 := n2_; have HO411 := n3_; have BK397 := n4_; have HB := n5_; have BK413 := n6_; have GW413 := n7_; have GE413 := n8_; have NB397_413 := n9_; have NB413_397 := n10_; clear n0_ n1_ n2_ n3_ n4_ n5_ n6_ n7_ n8_ n9_ n10_; clear hb hbox hg; obtain ⟨Ao146, co146, eo146⟩ := Kd.R_slice HO405.out; subst eo146; have hnb147 := NB413_397.out; have hnc147 := NB397_413.out; have hcz148_0 : w145.cell? ⟨gb413, 0, none⟩ = some (.slice none 0 0) := (blk_cell BK413.out 0).trans rfl; have hcz148_1 : w145.cell? ⟨gb413, 1, none⟩ = some (.slice none 0 0) := (blk_cell BK413.out 1).trans rfl; have hcz148_2 : w145.cell? ⟨gb413, 2, none⟩ = some (.slice none 0 0) := (blk_cell BK413.out 2).trans rfl; have hfz148_0 := blk_frozen BK413.out 0; have hfz148_1 := blk_frozen BK413.out 1; have hfz148_2 := blk_frozen BK413.out 2; obtain ⟨Ao149, co149, eo149⟩ := Kd.S_slice HO408.out; subst eo149; obtain ⟨Ao150, co150, eo150⟩ := Kd.R_slice HO411.out; subst eo150))
   repeat (go_quiet (first | ((with_reducible refine gate_dst (N := 1) rfl ?_); (try (refine gate_guard (by rfl) ?_; dsimp only)); refine box_event ?hg (N := 1) ?hd (cs := #[.slice A0_0 l0_0.length c0_0, .slice A0_1 l0_1.length c0_1, .slice A0_2 l0_2.length c0_2]) (t := 25) ?hr ?_; (case hd => rfl); (case hg => rfl); (case hr => first | (go_simp; done) | (go_simp; rfl)); intro gb397 hg w140 hbox hb; have n0_ := Aside0.mk (below_step (Bw HB.out) hb); have n1_ := Aside0.mk (hbox); have n2_ := Aside0.mk (Gs hg (Bw HB.out)); have n3_ := Aside0.mk (Gs hg (Bw HB.out)); clear HB; have HB := n0_; have BK397 := n1_; have GW397 := n2_; have GE397 := n3_; clear n0_ n1_ n2_ n3_; clear hb hbox hg; have hcz141_0 : w140.cell? ⟨gb397, 0, none⟩ = some (.slice A0_0 l0_0.length c0_0) := (blk_cell BK397.out 0).trans rfl; have hcz141_1 : w140.cell? ⟨gb397, 1, none⟩ = some (.slice A0_1 l0_1.length c0_1) := (blk_cell BK397.out 1).trans rfl; have hcz141_2 : w140.cell? ⟨gb397, 2, none⟩ = some (.slice A0_2 l0_2.length c0_2) := (blk_cell BK397.out 2).trans rfl; have hfz141_0 := blk_frozen BK397.out 0; have hfz141_1 := blk_frozen BK397.out 1; have hfz141_2 := blk_frozen BK397.out 2) | (go_at_call 21; (with_reducible refine (zeroone_Solve.calls _ _ l0_0 _ _ l0_1 _ _ l0_2 t398 t401 t402 _ ?side1 ?side2 ?side3 ?side4 ?side5 ?side6 A5.out).mono ?_); (case side1 => exact Ck (Kd.C_below HR0_0.out HB.out)); (case side2 => exact HC0_0.out); (case side3 => exact Ck (Kd.C_below HR0_1.out HB.out)); (case side4 => exact HC0_1.out); (case side5 => exact Ck (Kd.C_below HR0_2.out HB.out)); (case side6 => exact HC0_2.out); rintro e w142 ⟨v399, rfl, ho0, hb⟩; have n0_ := Aside0.mk (Kd.R_lower ho0 (below_size (Bw HB.out))); have n1_ := Aside0.mk (blk_below (g := gb397) (o := .cells #[.slice A0_0 l0_0.length c0_0, .slice A0_1 l0_1.length c0_1, .slice A0_2 l0_2.length c0_2] 25 (0, 0)) (Bk BK397.out) hb); have n2_ := Aside0.mk (below_step (Bw HB.out) hb); clear BK397; clear HB; have HO400 := n0_; have BK397 := n1_; have HB := n2_; clear n0_ n1_ n2_; (try clear hb); (try clear hb2); (try clear hk); (try clear hi); (try clear ho0); have hcz143_0 : w142.cell? ⟨gb397, 0, none⟩ = some (.slice A0_0 l0_0.length c0_0) := (blk_cell BK397.out 0).trans rfl; have hcz143_1 : w142.cell? ⟨gb397, 1, none⟩ = some (.slice A0_1 l0_1.length c0_1) := (blk_cell BK397.out 1).trans rfl; have hcz143_2 : w142.cell? ⟨gb397, 2, none⟩ = some (.slice A0_2 l0_2.length c0_2) := (blk_cell BK397.out 2).trans rfl; have hfz143_0 := blk_frozen BK397.out 0; have hfz143_1 := blk_frozen BK397.out 1; have hfz143_2 := blk_frozen BK397.out 2) | (go_at_call 18; (with_reducible refine (zeroone_Tighten.calls k _ _ l0_0 _ _ l0_1 _ _ l0_2 t403 t406 t409 t412 _ ?side1 ?side2 ?side3 ?side4 ?side5 ?side6 A6.out).mono ?_); (case side1 => exact Ck (Kd.C_below HR0_0.out HB.out)); (case side2 => exact HC0_0.out); (case side3 => exact Ck (Kd.C_below HR0_1.out HB.out)); (case side4 => exact HC0_1.out); (case side5 => exact Ck (Kd.C_below HR0_2.out HB.out)); (case side6 => exact HC0_2.out); rintro e w144 ⟨v404, v407, v410, rfl, ho0, ho1, ho2, hb⟩; have n0_ := Aside0.mk (Kd.R_mono (Kd.R_told (Kd.R_told (Kd.R_old (Rk HO400.out) hb) (Kd.R_base ho0)) (Kd.R_base ho2)) (fun _ h_ => h_.1)); have n1_ := Aside0.mk (Kd.R_lower (Kd.R_new' ho0 (Kd.R_lt (Rk HO400.out))) (below_size (Bw HB.out))); have n2_ := Aside0.mk (Kd.S_lower (Kd.S_new' ho1 (Kd.R_lt (Rk HO400.out))) (below_size (Bw HB.out))); have n3_ := Aside0.mk (Kd.R_lower (Kd.R_new' ho2 (Kd.R_lt (Rk HO400.out))) (below_size (Bw HB.out))); have n4_ := Aside0.mk (blk_below (g := gb397) (o := .cells #[.slice A0_0 l0_0.length c0_0, .slice A0_1 l0_1.length c0_1, .slice A0_2 l0_2.length c0_2] 25 (0, 0)) (Bk BK397.out) hb); have n5_ := Aside0.mk (below_step (Bw HB.out) hb); clear HO400; clear BK397; clear HB; have HO400 := n0_; have HO405 := n1_; have HO408 := n2_; have HO411 := n3_; have BK397 := n4_; have HB := n5_; clear n0_ n1_ n2_ n3_ n4_ n5_; (try clear hb); (try clear hb2); (try clear hk); (try clear hi); (try clear ho0); (try clear ho1); (try clear ho2)) | ((with_reducible refine gate_dst (N := 6) rfl ?_); (try (refine gate_guard (by rfl) ?_; dsimp only)); refine box_event ?hg (N := 6) ?hd (cs := #[.slice none 0 0, .slice none 0 0, .slice none 0 0]) (t := 25) ?hr ?_; (case hd => rfl); (case hg => rfl); (case hr => first | (go_simp; done) | (go_simp; rfl)); intro gb413 hg w145 hbox hb; have n0_ := Aside0.mk (Kd.R_below (Rk HO400.out) hb); have n1_ := Aside0.mk (Kd.R_below (Rk HO405.out) hb); have n2_ := Aside0.mk (Kd.S_below (by (with_reducible repeat (first | apply Kd.S_alloc | apply Kd.S_drewN | apply Kd.S_drew)); exact HO408.out) hb); have n3_ := Aside0.mk (Kd.R_below (Rk HO411.out) hb); have n4_ := Aside0.mk (blk_below (g := gb397) (o := .cells #[.slice A0_0 l0_0.length c0_0, .slice A0_1 l0_1.length c0_1, .slice A0_2 l0_2.length c0_2] 25 (0, 0)) (Bk BK397.out) hb); have n5_ := Aside0.mk (below_step (Bw HB.out) hb); have n6_ := Aside0.mk (hbox); have n7_ := Aside0.mk (Gs hg (Bw HB.out)); have n8_ := Aside0.mk (Gs hg (Bw HB.out)); have n9_ := Aside0.mk ((by rw [hg]; exact Nat.ne_of_lt (blk_lt (g := gb397) (o := .cells #[.slice A0_0 l0_0.length c0_0, .slice A0_1 l0_1.length c0_1, .slice A0_2 l0_2.length c0_2] 25 (0, 0)) (Bk BK397.out)) : gb397 ≠ gb413)); have n10_ := Aside0.mk ((by rw [hg]; exact Nat.ne_of_gt (blk_lt (g := gb397) (o := .cells #[.slice A0_0 l0_0.length c0_0, .slice A0_1 l0_1.length c0_1, .slice A0_2 l0_2.length c0_2] 25 (0, 0)) (Bk BK397.out)) : gb413 ≠ gb397)); clear HO400; clear HO405; clear HO408; clear HO411; clear BK397; clear HB; have HO400 := n0_; have HO405 := n1_; have HO408 := n2_; have HO411 := n3_; have BK397 := n4_; have HB := n5_; have BK413 := n6_; have GW413 := n7_; have GE413 := n8_; have NB397_413 := n9_; have NB413_397 := n10_; clear n0_ n1_ n2_ n3_ n4_ n5_ n6_ n7_ n8_ n9_ n10_; clear hb hbox hg; obtain ⟨Ao146, co146, eo146⟩ := Kd.R_slice HO405.out; subst eo146; have hnb147 := NB413_397.out; have hnc147 := NB397_413.out; have hcz148_0 : w145.cell? ⟨gb413, 0, none⟩ = some (.slice none 0 0) := (blk_cell BK413.out 0).trans rfl; have hcz148_1 : w145.cell? ⟨gb413, 1, none⟩ = some (.slice none 0 0) := (blk_cell BK413.out 1).trans rfl; have hcz148_2 : w145.cell? ⟨gb413, 2, none⟩ = some (.slice none 0 0) := (blk_cell BK413.out 2).trans rfl; have hfz148_0 := blk_frozen BK413.out 0; have hfz148_1 := blk_frozen BK413.out 1; have hfz148_2 := blk_frozen BK413.out 2; obtain ⟨Ao149, co149, eo149⟩ := Kd.S_slice HO408.out; subst eo149; obtain ⟨Ao150, co150, eo150⟩ := Kd.R_slice HO411.out; subst eo150)); try go_wp2_with (first | ((with_reducible refine gate_dst (N := 1) rfl ?_); (try (refine gate_guard (by rfl) ?_; dsimp only)); refine box_event ?hg (N := 1) ?hd (cs := #[.slice A0_0 l0_0.length c0_0, .slice A0_1 l0_1.length c0_1, .slice A0_2 l0_2.length c0_2]) (t := 25) ?hr ?_; (case hd => rfl); (case hg => rfl); (case hr => first | (go_simp; done) | (go_simp; rfl)); intro gb397 hg w140 hbox hb; have n0_ := Aside0.mk (below_step (Bw HB.out) hb); have n1_ := Aside0.mk (hbox); have n2_ := Aside0.mk (Gs hg (Bw HB.out)); have n3_ := Aside0.mk (Gs hg (Bw HB.out)); clear HB; have HB := n0_; have BK397 := n1_; have GW397 := n2_; have GE397 := n3_; clear n0_ n1_ n2_ n3_; clear hb hbox hg; have hcz141_0 : w140.cell? ⟨gb397, 0, none⟩ = some (.slice A0_0 l0_0.length c0_0) := (blk_cell BK397.out 0).trans rfl; have hcz141_1 : w140.cell? ⟨gb397, 1, none⟩ = some (.slice A0_1 l0_1.length c0_1) := (blk_cell BK397.out 1).trans rfl; have hcz141_2 : w140.cell? ⟨gb397, 2, none⟩ = some (.slice A0_2 l0_2.length c0_2) := (blk_cell BK397.out 2).trans rfl; have hfz141_0 := blk_frozen BK397.out 0; have hfz141_1 := blk_frozen BK397.out 1; have hfz141_2 := blk_frozen BK397.out 2) | (go_at_call 21; (with_reducible refine (zeroone_Solve.calls _ _ l0_0 _ _ l0_1 _ _ l0_2 t398 t401 t402 _ ?side1 ?side2 ?side3 ?side4 ?side5 ?side6 A5.out).mono ?_); (case side1 => exact Ck (Kd.C_below HR0_0.out HB.out)); (case side2 => exact HC0_0.out); (case side3 => exact Ck (Kd.C_below HR0_1.out HB.out)); (case side4 => exact HC0_1.out); (case side5 => exact Ck (Kd.C_below HR0_2.out HB.out)); (case side6 => exact HC0_2.out); rintro e w142 ⟨v399, rfl, ho0, hb⟩; have n0_ := Aside0.mk (Kd.R_lower ho0 (below_size (Bw HB.out))); have n1_ := Aside0.mk (blk_below (g := gb397) (o := .cells #[.slice A0_0 l0_0.length c0_0, .slice A0_1 l0_1.length c0_1, .slice A0_2 l0_2.length c0_2] 25 (0, 0)) (Bk BK397.out) hb); have n2_ := Aside0.mk (below_step (Bw HB.out) hb); clear BK397; clear HB; have HO400 := n0_; have BK397 := n1_; have HB := n2_; clear n0_ n1_ n2_; (try clear hb); (try clear hb2); (try clear hk); (try clear hi); (try clear ho0); have hcz143_0 : w142.cell? ⟨gb397, 0, none⟩ = some (.slice A0_0 l0_0.length c0_0) := (blk_cell BK397.out 0).trans rfl; have hcz143_1 : w142.cell? ⟨gb397, 1, none⟩ = some (.slice A0_1 l0_1.length c0_1) := (blk_cell BK397.out 1).trans rfl; have hcz143_2 : w142.cell? ⟨gb397, 2, none⟩ = some (.slice A0_2 l0_2.length c0_2) := (blk_cell BK397.out 2).trans rfl; have hfz143_0 := blk_frozen BK397.out 0; have hfz143_1 := blk_frozen BK397.out 1; have hfz143_2 := blk_frozen BK397.out 2) | (go_at_call 18; (with_reducible refine (zeroone_Tighten.calls k _ _ l0_0 _ _ l0_1 _ _ l0_2 t403 t406 t409 t412 _ ?side1 ?side2 ?side3 ?side4 ?side5 ?side6 A6.out).mono ?_); (case side1 => exact Ck (Kd.C_below HR0_0.out HB.out)); (case side2 => exact HC0_0.out); (case side3 => exact Ck (Kd.C_below HR0_1.out HB.out)); (case side4 => exact HC0_1.out); (case side5 => exact Ck (Kd.C_below HR0_2.out HB.out)); (case side6 => exact HC0_2.out); rintro e w144 ⟨v404, v407, v410, rfl, ho0, ho1, ho2, hb⟩; have n0_ := Aside0.mk (Kd.R_mono (Kd.R_told (Kd.R_told (Kd.R_old (Rk HO400.out) hb) (Kd.R_base ho0)) (Kd.R_base ho2)) (fun _ h_ => h_.1)); have n1_ := Aside0.mk (Kd.R_lower (Kd.R_new' ho0 (Kd.R_lt (Rk HO400.out))) (below_size (Bw HB.out))); have n2_ := Aside0.mk (Kd.S_lower (Kd.S_new' ho1 (Kd.R_lt (Rk HO400.out))) (below_size (Bw HB.out))); have n3_ := Aside0.mk (Kd.R_lower (Kd.R_new' ho2 (Kd.R_lt (Rk HO400.out))) (below_size (Bw HB.out))); have n4_ := Aside0.mk (blk_below (g := gb397) (o := .cells #[.slice A0_0 l0_0.length c0_0, .slice A0_1 l0_1.length c0_1, .slice A0_2 l0_2.length c0_2] 25 (0, 0)) (Bk BK397.out) hb); have n5_ := Aside0.mk (below_step (Bw HB.out) hb); clear HO400; clear BK397; clear HB; have HO400 := n0_; have HO405 := n1_; have HO408 := n2_; have HO411 := n3_; have BK397 := n4_; have HB := n5_; clear n0_ n1_ n2_ n3_ n4_ n5_; (try clear hb); (try clear hb2); (try clear hk); (try clear hi); (try clear ho0); (try clear ho1); (try clear ho2)) | ((with_reducible refine gate_dst (N := 6) rfl ?_); (try (refine gate_guard (by rfl) ?_; dsimp only)); refine box_event ?hg (N := 6) ?hd (cs := #[.slice none 0 0, .slice none 0 0, .slice none 0 0]) (t := 25) ?hr ?_; (case hd => rfl); (case hg => rfl); (case hr => first | (go_simp; done) | (go_simp; rfl)); intro gb413 hg w145 hbox hb; have n0_ := Aside0.mk (Kd.R_below (Rk HO400.out) hb); have n1_ := Aside0.mk (Kd.R_below (Rk HO405.out) hb); have n2_ := Aside0.mk (Kd.S_below (by (with_reducible repeat (first | apply Kd.S_alloc | apply Kd.S_drewN | apply Kd.S_drew)); exact HO408.out) hb); have n3_ := Aside0.mk (Kd.R_below (Rk HO411.out) hb); have n4_ := Aside0.mk (blk_below (g := gb397) (o := .cells #[.slice A0_0 l0_0.length c0_0, .slice A0_1 l0_1.length c0_1, .slice A0_2 l0_2.length c0_2] 25 (0, 0)) (Bk BK397.out) hb); have n5_ := Aside0.mk (below_step (Bw HB.out) hb); have n6_ := Aside0.mk (hbox); have n7_ := Aside0.mk (Gs hg (Bw HB.out)); have n8_ := Aside0.mk (Gs hg (Bw HB.out)); have n9_ := Aside0.mk ((by rw [hg]; exact Nat.ne_of_lt (blk_lt (g := gb397) (o := .cells #[.slice A0_0 l0_0.length c0_0, .slice A0_1 l0_1.length c0_1, .slice A0_2 l0_2.length c0_2] 25 (0, 0)) (Bk BK397.out)) : gb397 ≠ gb413)); have n10_ := Aside0.mk ((by rw [hg]; exact Nat.ne_of_gt (blk_lt (g := gb397) (o := .cells #[.slice A0_0 l0_0.length c0_0, .slice A0_1 l0_1.length c0_1, .slice A0_2 l0_2.length c0_2] 25 (0, 0)) (Bk BK397.out)) : gb413 ≠ gb397)); clear HO400; clear HO405; clear HO408; clear HO411; clear BK397; clear HB; have HO400 := n0_; have HO405 := n1_; have HO408 := n2_; have HO411 := n3_; have BK397 := n4_; have HB := n5_; have BK413 := n6_; have GW413 := n7_; have GE413 := n8_; have NB397_413 := n9_; have NB413_397 := n10_; clear n0_ n1_ n2_ n3_ n4_ n5_ n6_ n7_ n8_ n9_ n10_; clear hb hbox hg; obtain ⟨Ao146, co146, eo146⟩ := Kd.R_slice HO405.out; subst eo146; have hnb147 := NB413_397.out; have hnc147 := NB397_413.out; have hcz148_0 : w145.cell? ⟨gb413, 0, none⟩ = some (.slice none 0 0) := (blk_cell BK413.out 0).trans rfl; have hcz148_1 : w145.cell? ⟨gb413, 1, none⟩ = some (.slice none 0 0) := (blk_cell BK413.out 1).trans rfl; have hcz148_2 : w145.cell? ⟨gb413, 2, none⟩ = some (.slice none 0 0) := (blk_cell BK413.out 2).trans rfl; have hfz148_0 := blk_frozen BK413.out 0; have hfz148_1 := blk_frozen BK413.out 1; have hfz148_2 := blk_frozen BK413.out 2; obtain ⟨Ao149, co149, eo149⟩ := Kd.S_slice HO408.out; subst eo149; obtain ⟨Ao150, co150, eo150⟩ := Kd.R_slice HO411.out; subst eo150)))
   go_ret
   exact ⟨Es, Bw HB.out⟩

end Go.Proofs.Ythicnegcpafkkaa.All
