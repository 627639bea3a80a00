-- Written by myprint.py for this claim: functions of the program as Lean functions, with the proofs that the calls come to them.
import Derived.Test.YtkajeeikpffioaaAllx0
import Derived.Test.YtkajeeikpffioaaAllx1
import Derived.Test.YtkajeeikpffioaaAllx2
import Derived.Test.YtkajeeikpffioaaAllx5
import Derived.Test.YtkajeeikpffioaaAllx6
import Derived.Test.YtkajeeikpffioaaAllx8
import Derived.Test.YtkajeeikpffioaaAllx9
namespace Go.Proofs.Ytkajeeikpffioaa.All
open Go.RowKit Go.Proofs.YtkajeeikpffioaaW.PrintWords Go.Proofs.YtkajeeikpffioaaW.PrintLast Go.Proofs.YtkajeeikpffioaaW.PrintMore
attribute [local go_sem] max2_int min2_int max_two min_two max_three min_three max_four min_four   -- for this text's walks alone
set_option linter.unusedVariables false
set_option linter.unusedSimpArgs false

/-! ### examboardlaw43_awake: function 8 -/
mutual
def examboardlaw43_awake.j0 : Nat → Bool → Int → Int → Int → Option (Bool)
 | 0, _, _, _, _ => none
 | k + 1, x2, x3, x227000, x227001 => (examboardlaw43_sample.f).bind fun bt239 => ((adjudicate_Agree.f k x227000 x227001 bt239.1 bt239.2 (([3] : List Int)) (([1] : List Int))).bind fun bt249 => (examboardlaw43_awake.j1 k x2 x3 bt249.1 bt249.2 x227000 x227001))
def examboardlaw43_awake.j1 : Nat → Bool → Int → Bool → Int → Int → Int → Option (Bool)
 | 0, _, _, _, _, _, _ => none
 | k + 1, x2, x3, x4, x5, x227000, x227001 => (examboardlaw43_sample.f).bind fun bt251 => ((adjudicate_Need.f k x227000 x227001 bt251.1 bt251.2 (([(([3] : List Int)), (([1] : List Int))] : List (List Int)))).bind fun bt264 => (examboardlaw43_awake.j2 k x2 x3 x4 x5 bt264.1 bt264.2 x227000 x227001))
def examboardlaw43_awake.j2 : Nat → Bool → Int → Bool → Int → Int → Int → Int → Int → Option (Bool)
 | 0, _, _, _, _, _, _, _, _ => none
 | k + 1, x2, x3, x4, x5, x6, x7, x227000, x227001 => (examboardlaw43_sample.f).bind fun bt266 => ((adjudicate_Score.f k x227000 x227001 bt266.1 bt266.2 (([(([3] : List Int)), (([2] : List Int))] : List (List Int)))).bind fun bt279 => (examboardlaw43_awake.j3 k x2 x3 x4 x5 x6 x7 bt279.1 bt279.2 x227000 x227001))
def examboardlaw43_awake.j3 : Nat → Bool → Int → Bool → Int → Int → Int → Int → Int → Int → Int → Option (Bool)
 | 0, _, _, _, _, _, _, _, _, _, _ => none
 | k + 1, x2, x3, x4, x5, x6, x7, x8, x9, x227000, x227001 => (examboardlaw43_sample.f).bind fun bt281 => ((adjudicate_Score.f k x227000 x227001 bt281.1 bt281.2 (([(([3] : List Int)), (([1] : List Int))] : List (List Int)))).bind fun bt294 => (examboardlaw43_awake.j4 k x2 x3 x4 x5 x6 x7 x8 x9 bt294.2))
def examboardlaw43_awake.j4 : Nat → Bool → Int → Bool → Int → Int → Int → Int → Int → Int → Option (Bool)
 | 0, _, _, _, _, _, _, _, _, _ => none
 | k + 1, x2, x3, x4, x5, x6, x7, x8, x9, x11 => (adjudicate_Pick.f k (([(⟨1, 7, (([3] : List Int))⟩ : S31), (⟨1, 8, (([4] : List Int))⟩ : S31)] : List (S31))) 8).bind fun bt305 => (examboardlaw43_awake.j5 k x2 x3 x4 x5 x6 x7 x8 x9 x11 bt305.1 bt305.2)
def examboardlaw43_awake.j5 : Nat → Bool → Int → Bool → Int → Int → Int → Int → Int → Int → List (List Int) → Int → Option (Bool)
 | 0, _, _, _, _, _, _, _, _, _, _, _ => none
 | k + 1, x2, x3, x4, x5, x6, x7, x8, x9, x11, x12, x13 => if x2 = true then (if x4 = true then (examboardlaw43_awake.j6 k true) else (if x3 = 0 then (if x5 = 0 then (if x6 = 1 then (if x7 = 0 then (if x8 = 5 then (if x9 = 0 then (if x11 = 22 then ((examboardlaw43_equal.f k x12 (([(([4] : List Int))] : List (List Int)))).bind fun t315 => (if t315 = true then (examboardlaw43_awake.j6 k (x13 != 0)) else (examboardlaw43_awake.j6 k true))) else (examboardlaw43_awake.j6 k true)) else (examboardlaw43_awake.j6 k true)) else (examboardlaw43_awake.j6 k true)) else (examboardlaw43_awake.j6 k true)) else (examboardlaw43_awake.j6 k true)) else (examboardlaw43_awake.j6 k true)) else (examboardlaw43_awake.j6 k true))) else (examboardlaw43_awake.j6 k true)
def examboardlaw43_awake.j6 : Nat → Bool → Option (Bool)
 | 0, _ => none
 | k + 1, x110 => if x110 = true then (some false) else ((examboardlaw43_scored.f k 1 1 4 2 4).bind fun t316 => (if t316 = true then ((examboardlaw43_scored.f k 2 1 4 2 3).bind fun t317 => (if t317 = true then ((examboardlaw43_scored.f k 3 1 4 2 4).bind fun t318 => (if t318 = true then ((examboardlaw43_scored.f k 2 0 4 2 2).bind fun t319 => (some t319)) else (some false))) else (some false))) else (some false)))
end
def examboardlaw43_awake.f (k : Nat)  : Option (Bool) := (examboardlaw43_sample.f).bind fun bt227 => ((adjudicate_Agree.f k 1 2 bt227.1 bt227.2 (([3] : List Int)) (([2] : List Int))).bind fun bt237 => (examboardlaw43_awake.j0 k bt237.1 bt237.2 1 2))
theorem examboardlaw43_awake.mono_l : ∀ k, (∀ y0 y1 y2 y3, LeO (examboardlaw43_awake.j0 k y0 y1 y2 y3) (examboardlaw43_awake.j0 (k + 1) y0 y1 y2 y3)) ∧ (∀ y0 y1 y2 y3 y4 y5, LeO (examboardlaw43_awake.j1 k y0 y1 y2 y3 y4 y5) (examboardlaw43_awake.j1 (k + 1) y0 y1 y2 y3 y4 y5)) ∧ (∀ y0 y1 y2 y3 y4 y5 y6 y7, LeO (examboardlaw43_awake.j2 k y0 y1 y2 y3 y4 y5 y6 y7) (examboardlaw43_awake.j2 (k + 1) y0 y1 y2 y3 y4 y5 y6 y7)) ∧ (∀ y0 y1 y2 y3 y4 y5 y6 y7 y8 y9, LeO (examboardlaw43_awake.j3 k y0 y1 y2 y3 y4 y5 y6 y7 y8 y9) (examboardlaw43_awake.j3 (k + 1) y0 y1 y2 y3 y4 y5 y6 y7 y8 y9)) ∧ (∀ y0 y1 y2 y3 y4 y5 y6 y7 y8, LeO (examboardlaw43_awake.j4 k y0 y1 y2 y3 y4 y5 y6 y7 y8) (examboardlaw43_awake.j4 (k + 1) y0 y1 y2 y3 y4 y5 y6 y7 y8)) ∧ (∀ y0 y1 y2 y3 y4 y5 y6 y7 y8 y9 y10, LeO (examboardlaw43_awake.j5 k y0 y1 y2 y3 y4 y5 y6 y7 y8 y9 y10) (examboardlaw43_awake.j5 (k + 1) y0 y1 y2 y3 y4 y5 y6 y7 y8 y9 y10)) ∧ (∀ y0, LeO (examboardlaw43_awake.j6 k y0) (examboardlaw43_awake.j6 (k + 1) y0))
 | 0 => ⟨fun _ _ _ _ r h => by simp [examboardlaw43_awake.j0] at h, fun _ _ _ _ _ _ r h => by simp [examboardlaw43_awake.j1] at h, fun _ _ _ _ _ _ _ _ r h => by simp [examboardlaw43_awake.j2] at h, fun _ _ _ _ _ _ _ _ _ _ r h => by simp [examboardlaw43_awake.j3] at h, fun _ _ _ _ _ _ _ _ _ r h => by simp [examboardlaw43_awake.j4] at h, fun _ _ _ _ _ _ _ _ _ _ _ r h => by simp [examboardlaw43_awake.j5] at h, fun _ r h => by simp [examboardlaw43_awake.j6] at h⟩
 | k + 1 => by
  obtain ⟨ih0, ih1, ih2, ih3, ih4, ih5, ih6⟩ := examboardlaw43_awake.mono_l k
  refine ⟨?_, ?_, ?_, ?_, ?_, ?_, ?_⟩
  ·
   intro y0 y1 y2 y3
   unfold examboardlaw43_awake.j0
   repeat' first
   | (with_reducible exact ih0 _ _ _ _)
   | (with_reducible exact ih1 _ _ _ _ _ _)
   | (with_reducible exact ih2 _ _ _ _ _ _ _ _)
   | (with_reducible exact ih3 _ _ _ _ _ _ _ _ _ _)
   | (with_reducible exact ih4 _ _ _ _ _ _ _ _ _)
   | (with_reducible exact ih5 _ _ _ _ _ _ _ _ _ _ _)
   | (with_reducible exact ih6 _)
   | (with_reducible exact adjudicate_Agree.mono _ _ _ _ _ _ _)
   | (with_reducible exact adjudicate_Need.mono _ _ _ _ _ _)
   | (with_reducible exact adjudicate_Pick.mono _ _ _)
   | (with_reducible exact adjudicate_Score.mono _ _ _ _ _ _)
   | (with_reducible exact examboardlaw43_equal.mono _ _ _)
   | (with_reducible exact examboardlaw43_scored.mono _ _ _ _ _ _)
   | (with_reducible exact LeO.refl _)
   | (with_reducible exact LeO.none _)
   | (with_reducible refine LeO.ite ?_ ?_)
   | (with_reducible refine LeO.bind ?_ (fun _ => ?_))
   | exact ih0 _ _ _ _
   | exact ih1 _ _ _ _ _ _
   | exact ih2 _ _ _ _ _ _ _ _
   | exact ih3 _ _ _ _ _ _ _ _ _ _
   | exact ih4 _ _ _ _ _ _ _ _ _
   | exact ih5 _ _ _ _ _ _ _ _ _ _ _
   | exact ih6 _
   | exact adjudicate_Agree.mono _ _ _ _ _ _ _
   | exact adjudicate_Need.mono _ _ _ _ _ _
   | exact adjudicate_Pick.mono _ _ _
   | exact adjudicate_Score.mono _ _ _ _ _ _
   | exact examboardlaw43_equal.mono _ _ _
   | exact examboardlaw43_scored.mono _ _ _ _ _ _
   | exact LeO.none _
   | refine LeO.ite ?_ ?_
   | refine LeO.bind ?_ (fun _ => ?_)
  ·
   intro y0 y1 y2 y3 y4 y5
   unfold examboardlaw43_awake.j1
   repeat' first
   | (with_reducible exact ih0 _ _ _ _)
   | (with_reducible exact ih1 _ _ _ _ _ _)
   | (with_reducible exact ih2 _ _ _ _ _ _ _ _)
   | (with_reducible exact ih3 _ _ _ _ _ _ _ _ _ _)
   | (with_reducible exact ih4 _ _ _ _ _ _ _ _ _)
   | (with_reducible exact ih5 _ _ _ _ _ _ _ _ _ _ _)
   | (with_reducible exact ih6 _)
   | (with_reducible exact adjudicate_Agree.mono _ _ _ _ _ _ _)
   | (with_reducible exact adjudicate_Need.mono _ _ _ _ _ _)
   | (with_reducible exact adjudicate_Pick.mono _ _ _)
   | (with_reducible exact adjudicate_Score.mono _ _ _ _ _ _)
   | (with_reducible exact examboardlaw43_equal.mono _ _ _)
   | (with_reducible exact examboardlaw43_scored.mono _ _ _ _ _ _)
   | (with_reducible exact LeO.refl _)
   | (with_reducible exact LeO.none _)
   | (with_reducible refine LeO.ite ?_ ?_)
   | (with_reducible refine LeO.bind ?_ (fun _ => ?_))
   | exact ih0 _ _ _ _
   | exact ih1 _ _ _ _ _ _
   | exact ih2 _ _ _ _ _ _ _ _
   | exact ih3 _ _ _ _ _ _ _ _ _ _
   | exact ih4 _ _ _ _ _ _ _ _ _
   | exact ih5 _ _ _ _ _ _ _ _ _ _ _
   | exact ih6 _
   | exact adjudicate_Agree.mono _ _ _ _ _ _ _
   | exact adjudicate_Need.mono _ _ _ _ _ _
   | exact adjudicate_Pick.mono _ _ _
   | exact adjudicate_Score.mono _ _ _ _ _ _
   | exact examboardlaw43_equal.mono _ _ _
   | exact examboardlaw43_scored.mono _ _ _ _ _ _
   | exact LeO.none _
   | refine LeO.ite ?_ ?_
   | refine LeO.bind ?_ (fun _ => ?_)
  ·
   intro y0 y1 y2 y3 y4 y5 y6 y7
   unfold examboardlaw43_awake.j2
   repeat' first
   | (with_reducible exact ih0 _ _ _ _)
   | (with_reducible exact ih1 _ _ _ _ _ _)
   | (with_reducible exact ih2 _ _ _ _ _ _ _ _)
   | (with_reducible exact ih3 _ _ _ _ _ _ _ _ _ _)
   | (with_reducible exact ih4 _ _ _ _ _ _ _ _ _)
   | (with_reducible exact ih5 _ _ _ _ _ _ _ _ _ _ _)
   | (with_reducible exact ih6 _)
   | (with_reducible exact adjudicate_Agree.mono _ _ _ _ _ _ _)
   | (with_reducible exact adjudicate_Need.mono _ _ _ _ _ _)
   | (with_reducible exact adjudicate_Pick.mono _ _ _)
   | (with_reducible exact adjudicate_Score.mono _ _ _ _ _ _)
   | (with_reducible exact examboardlaw43_equal.mono _ _ _)
   | (with_reducible exact examboardlaw43_scored.mono _ _ _ _ _ _)
   | (with_reducible exact LeO.refl _)
   | (with_reducible exact LeO.none _)
   | (with_reducible refine LeO.ite ?_ ?_)
   | (with_reducible refine LeO.bind ?_ (fun _ => ?_))
   | exact ih0 _ _ _ _
   | exact ih1 _ _ _ _ _ _
   | exact ih2 _ _ _ _ _ _ _ _
   | exact ih3 _ _ _ _ _ _ _ _ _ _
   | exact ih4 _ _ _ _ _ _ _ _ _
   | exact ih5 _ _ _ _ _ _ _ _ _ _ _
   | exact ih6 _
   | exact adjudicate_Agree.mono _ _ _ _ _ _ _
   | exact adjudicate_Need.mono _ _ _ _ _ _
   | exact adjudicate_Pick.mono _ _ _
   | exact adjudicate_Score.mono _ _ _ _ _ _
   | exact examboardlaw43_equal.mono _ _ _
   | exact examboardlaw43_scored.mono _ _ _ _ _ _
   | exact LeO.none _
   | refine LeO.ite ?_ ?_
   | refine LeO.bind ?_ (fun _ => ?_)
  ·
   intro y0 y1 y2 y3 y4 y5 y6 y7 y8 y9
   unfold examboardlaw43_awake.j3
   repeat' first
   | (with_reducible exact ih0 _ _ _ _)
   | (with_reducible exact ih1 _ _ _ _ _ _)
   | (with_reducible exact ih2 _ _ _ _ _ _ _ _)
   | (with_reducible exact ih3 _ _ _ _ _ _ _ _ _ _)
   | (with_reducible exact ih4 _ _ _ _ _ _ _ _ _)
   | (with_reducible exact ih5 _ _ _ _ _ _ _ _ _ _ _)
   | (with_reducible exact ih6 _)
   | (with_reducible exact adjudicate_Agree.mono _ _ _ _ _ _ _)
   | (with_reducible exact adjudicate_Need.mono _ _ _ _ _ _)
   | (with_reducible exact adjudicate_Pick.mono _ _ _)
   | (with_reducible exact adjudicate_Score.mono _ _ _ _ _ _)
   | (with_reducible exact examboardlaw43_equal.mono _ _ _)
   | (with_reducible exact examboardlaw43_scored.mono _ _ _ _ _ _)
   | (with_reducible exact LeO.refl _)
   | (with_reducible exact LeO.none _)
   | (with_reducible refine LeO.ite ?_ ?_)
   | (with_reducible refine LeO.bind ?_ (fun _ => ?_))
   | exact ih0 _ _ _ _
   | exact ih1 _ _ _ _ _ _
   | exact ih2 _ _ _ _ _ _ _ _
   | exact ih3 _ _ _ _ _ _ _ _ _ _
   | exact ih4 _ _ _ _ _ _ _ _ _
   | exact ih5 _ _ _ _ _ _ _ _ _ _ _
   | exact ih6 _
   | exact adjudicate_Agree.mono _ _ _ _ _ _ _
   | exact adjudicate_Need.mono _ _ _ _ _ _
   | exact adjudicate_Pick.mono _ _ _
   | exact adjudicate_Score.mono _ _ _ _ _ _
   | exact examboardlaw43_equal.mono _ _ _
   | exact examboardlaw43_scored.mono _ _ _ _ _ _
   | exact LeO.none _
   | refine LeO.ite ?_ ?_
   | refine LeO.bind ?_ (fun _ => ?_)
  ·
   intro y0 y1 y2 y3 y4 y5 y6 y7 y8
   unfold examboardlaw43_awake.j4
   repeat' first
   | (with_reducible exact ih0 _ _ _ _)
   | (with_reducible exact ih1 _ _ _ _ _ _)
   | (with_reducible exact ih2 _ _ _ _ _ _ _ _)
   | (with_reducible exact ih3 _ _ _ _ _ _ _ _ _ _)
   | (with_reducible exact ih4 _ _ _ _ _ _ _ _ _)
   | (with_reducible exact ih5 _ _ _ _ _ _ _ _ _ _ _)
   | (with_reducible exact ih6 _)
   | (with_reducible exact adjudicate_Agree.mono _ _ _ _ _ _ _)
   | (with_reducible exact adjudicate_Need.mono _ _ _ _ _ _)
   | (with_reducible exact adjudicate_Pick.mono _ _ _)
   | (with_reducible exact adjudicate_Score.mono _ _ _ _ _ _)
   | (with_reducible exact examboardlaw43_equal.mono _ _ _)
   | (with_reducible exact examboardlaw43_scored.mono _ _ _ _ _ _)
   | (with_reducible exact LeO.refl _)
   | (with_reducible exact LeO.none _)
   | (with_reducible refine LeO.ite ?_ ?_)
   | (with_reducible refine LeO.bind ?_ (fun _ => ?_))
   | exact ih0 _ _ _ _
   | exact ih1 _ _ _ _ _ _
   | exact ih2 _ _ _ _ _ _ _ _
   | exact ih3 _ _ _ _ _ _ _ _ _ _
   | exact ih4 _ _ _ _ _ _ _ _ _
   | exact ih5 _ _ _ _ _ _ _ _ _ _ _
   | exact ih6 _
   | exact adjudicate_Agree.mono _ _ _ _ _ _ _
   | exact adjudicate_Need.mono _ _ _ _ _ _
   | exact adjudicate_Pick.mono _ _ _
   | exact adjudicate_Score.mono _ _ _ _ _ _
   | exact examboardlaw43_equal.mono _ _ _
   | exact examboardlaw43_scored.mono _ _ _ _ _ _
   | exact LeO.none _
   | refine LeO.ite ?_ ?_
   | refine LeO.bind ?_ (fun _ => ?_)
  ·
   intro y0 y1 y2 y3 y4 y5 y6 y7 y8 y9 y10
   unfold examboardlaw43_awake.j5
   repeat' first
   | (with_reducible exact ih0 _ _ _ _)
   | (with_reducible exact ih1 _ _ _ _ _ _)
   | (with_reducible exact ih2 _ _ _ _ _ _ _ _)
   | (with_reducible exact ih3 _ _ _ _ _ _ _ _ _ _)
   | (with_reducible exact ih4 _ _ _ _ _ _ _ _ _)
   | (with_reducible exact ih5 _ _ _ _ _ _ _ _ _ _ _)
   | (with_reducible exact ih6 _)
   | (with_reducible exact adjudicate_Agree.mono _ _ _ _ _ _ _)
   | (with_reducible exact adjudicate_Need.mono _ _ _ _ _ _)
   | (with_reducible exact adjudicate_Pick.mono _ _ _)
   | (with_reducible exact adjudicate_Score.mono _ _ _ _ _ _)
   | (with_reducible exact examboardlaw43_equal.mono _ _ _)
   | (with_reducible exact examboardlaw43_scored.mono _ _ _ _ _ _)
   | (with_reducible exact LeO.refl _)
   | (with_reducible exact LeO.none _)
   | (with_reducible refine LeO.ite ?_ ?_)
   | (with_reducible refine LeO.bind ?_ (fun _ => ?_))
   | exact ih0 _ _ _ _
   | exact ih1 _ _ _ _ _ _
   | exact ih2 _ _ _ _ _ _ _ _
   | exact ih3 _ _ _ _ _ _ _ _ _ _
   | exact ih4 _ _ _ _ _ _ _ _ _
   | exact ih5 _ _ _ _ _ _ _ _ _ _ _
   | exact ih6 _
   | exact adjudicate_Agree.mono _ _ _ _ _ _ _
   | exact adjudicate_Need.mono _ _ _ _ _ _
   | exact adjudicate_Pick.mono _ _ _
   | exact adjudicate_Score.mono _ _ _ _ _ _
   | exact examboardlaw43_equal.mono _ _ _
   | exact examboardlaw43_scored.mono _ _ _ _ _ _
   | exact LeO.none _
   | refine LeO.ite ?_ ?_
   | refine LeO.bind ?_ (fun _ => ?_)
  ·
   intro y0
   unfold examboardlaw43_awake.j6
   repeat' first
   | (with_reducible exact ih0 _ _ _ _)
   | (with_reducible exact ih1 _ _ _ _ _ _)
   | (with_reducible exact ih2 _ _ _ _ _ _ _ _)
   | (with_reducible exact ih3 _ _ _ _ _ _ _ _ _ _)
   | (with_reducible exact ih4 _ _ _ _ _ _ _ _ _)
   | (with_reducible exact ih5 _ _ _ _ _ _ _ _ _ _ _)
   | (with_reducible exact ih6 _)
   | (with_reducible exact adjudicate_Agree.mono _ _ _ _ _ _ _)
   | (with_reducible exact adjudicate_Need.mono _ _ _ _ _ _)
   | (with_reducible exact adjudicate_Pick.mono _ _ _)
   | (with_reducible exact adjudicate_Score.mono _ _ _ _ _ _)
   | (with_reducible exact examboardlaw43_equal.mono _ _ _)
   | (with_reducible exact examboardlaw43_scored.mono _ _ _ _ _ _)
   | (with_reducible exact LeO.refl _)
   | (with_reducible exact LeO.none _)
   | (with_reducible refine LeO.ite ?_ ?_)
   | (with_reducible refine LeO.bind ?_ (fun _ => ?_))
   | exact ih0 _ _ _ _
   | exact ih1 _ _ _ _ _ _
   | exact ih2 _ _ _ _ _ _ _ _
   | exact ih3 _ _ _ _ _ _ _ _ _ _
   | exact ih4 _ _ _ _ _ _ _ _ _
   | exact ih5 _ _ _ _ _ _ _ _ _ _ _
   | exact ih6 _
   | exact adjudicate_Agree.mono _ _ _ _ _ _ _
   | exact adjudicate_Need.mono _ _ _ _ _ _
   | exact adjudicate_Pick.mono _ _ _
   | exact adjudicate_Score.mono _ _ _ _ _ _
   | exact examboardlaw43_equal.mono _ _ _
   | exact examboardlaw43_scored.mono _ _ _ _ _ _
   | exact LeO.none _
   | refine LeO.ite ?_ ?_
   | refine LeO.bind ?_ (fun _ => ?_)
theorem examboardlaw43_awake.mono : ∀ k, LeO (examboardlaw43_awake.f k ) (examboardlaw43_awake.f (k + 1) ) := by
 intro  k
 obtain ⟨ih0, ih1, ih2, ih3, ih4, ih5, ih6⟩ := examboardlaw43_awake.mono_l k
 unfold examboardlaw43_awake.f
 repeat' first
   | (with_reducible exact ih0 _ _ _ _)
   | (with_reducible exact ih1 _ _ _ _ _ _)
   | (with_reducible exact ih2 _ _ _ _ _ _ _ _)
   | (with_reducible exact ih3 _ _ _ _ _ _ _ _ _ _)
   | (with_reducible exact ih4 _ _ _ _ _ _ _ _ _)
   | (with_reducible exact ih5 _ _ _ _ _ _ _ _ _ _ _)
   | (with_reducible exact ih6 _)
   | (with_reducible exact adjudicate_Agree.mono _ _ _ _ _ _ _)
   | (with_reducible exact adjudicate_Need.mono _ _ _ _ _ _)
   | (with_reducible exact adjudicate_Pick.mono _ _ _)
   | (with_reducible exact adjudicate_Score.mono _ _ _ _ _ _)
   | (with_reducible exact examboardlaw43_equal.mono _ _ _)
   | (with_reducible exact examboardlaw43_scored.mono _ _ _ _ _ _)
   | (with_reducible exact LeO.refl _)
   | (with_reducible exact LeO.none _)
   | (with_reducible refine LeO.ite ?_ ?_)
   | (with_reducible refine LeO.bind ?_ (fun _ => ?_))
   | exact ih0 _ _ _ _
   | exact ih1 _ _ _ _ _ _
   | exact ih2 _ _ _ _ _ _ _ _
   | exact ih3 _ _ _ _ _ _ _ _ _ _
   | exact ih4 _ _ _ _ _ _ _ _ _
   | exact ih5 _ _ _ _ _ _ _ _ _ _ _
   | exact ih6 _
   | exact adjudicate_Agree.mono _ _ _ _ _ _ _
   | exact adjudicate_Need.mono _ _ _ _ _ _
   | exact adjudicate_Pick.mono _ _ _
   | exact adjudicate_Score.mono _ _ _ _ _ _
   | exact examboardlaw43_equal.mono _ _ _
   | exact examboardlaw43_scored.mono _ _ _ _ _ _
   | exact LeO.none _
   | refine LeO.ite ?_ ?_
   | refine LeO.bind ?_ (fun _ => ?_)
def examboardlaw43_awake.T2 : Bool × List (List Nat × List Nat) := (true, [([], []), ([], []), ([], []), ([], []), ([0, 1, 2, 3, 1], [0, 1, 2, 3]), ([4], [4]), ([5], [5]), ([5], [5]), ([6, 4, 0, 1, 2, 3, 4, 5, 6], [6]), ([7, 8, 0, 1, 2, 3, 4, 5, 6, 7, 8], [7])])
def examboardlaw43_awake.B2 : List Nat := [0, 0, 0, 0, 15, 31, 63, 63, 127, 511]
theorem examboardlaw43_awake.tab2 : rtab .any (opsOf Try.f8 2) = examboardlaw43_awake.T2 := by kernel_rfl
theorem examboardlaw43_awake.bits2 : waitsOk examboardlaw43_awake.T2.2 examboardlaw43_awake.B2 = true := by kernel_rfl
def examboardlaw43_awake.T3 : Bool × List (List Nat × List Nat) := (true, [([], []), ([], []), ([], []), ([], []), ([0, 1, 2, 3, 1], [0, 1, 2, 3]), ([4], [4]), ([5], [5]), ([5], [5]), ([6, 4, 0, 1, 2, 3, 4, 5, 6], [6]), ([7, 8, 0, 1, 2, 3, 4, 5, 6, 7, 8], [7])])
def examboardlaw43_awake.B3 : List Nat := [0, 0, 0, 0, 15, 31, 63, 63, 127, 511]
theorem examboardlaw43_awake.tab3 : rtab .any (opsOf Try.f8 3) = examboardlaw43_awake.T3 := by kernel_rfl
theorem examboardlaw43_awake.bits3 : waitsOk examboardlaw43_awake.T3.2 examboardlaw43_awake.B3 = true := by kernel_rfl
def examboardlaw43_awake.T4 : Bool × List (List Nat × List Nat) := (true, [([], []), ([], []), ([], []), ([], []), ([2, 3], [2, 3]), ([0, 1, 4, 1], [0, 1, 4]), ([5], [5]), ([6], [6]), ([6], [6]), ([7, 5, 0, 1, 2, 3, 4, 5, 6, 7], [7]), ([8, 9, 0, 1, 2, 3, 4, 5, 6, 7, 8, 9], [8])])
def examboardlaw43_awake.B4 : List Nat := [0, 0, 0, 0, 12, 31, 63, 127, 127, 255, 1023]
theorem examboardlaw43_awake.tab4 : rtab .any (opsOf Try.f8 4) = examboardlaw43_awake.T4 := by kernel_rfl
theorem examboardlaw43_awake.bits4 : waitsOk examboardlaw43_awake.T4.2 examboardlaw43_awake.B4 = true := by kernel_rfl
def examboardlaw43_awake.T5 : Bool × List (List Nat × List Nat) := (true, [([], []), ([], []), ([], []), ([], []), ([2, 3], [2, 3]), ([0, 1, 4, 1], [0, 1, 4]), ([5], [5]), ([6], [6]), ([6], [6]), ([7, 5, 0, 1, 2, 3, 4, 5, 6, 7], [7]), ([8, 9, 0, 1, 2, 3, 4, 5, 6, 7, 8, 9], [8])])
def examboardlaw43_awake.B5 : List Nat := [0, 0, 0, 0, 12, 31, 63, 127, 127, 255, 1023]
theorem examboardlaw43_awake.tab5 : rtab .any (opsOf Try.f8 5) = examboardlaw43_awake.T5 := by kernel_rfl
theorem examboardlaw43_awake.bits5 : waitsOk examboardlaw43_awake.T5.2 examboardlaw43_awake.B5 = true := by kernel_rfl
def examboardlaw43_awake.T6 : Bool × List (List Nat × List Nat) := (true, [([], []), ([], []), ([], []), ([], []), ([2, 3], [2, 3]), ([0, 1, 4, 1], [0, 1, 4]), ([5], [5]), ([6], [6]), ([6], [6]), ([7, 5, 0, 1, 2, 3, 4, 5, 6, 7], [7]), ([8, 9, 0, 1, 2, 3, 4, 5, 6, 7, 8, 9], [8])])
def examboardlaw43_awake.B6 : List Nat := [0, 0, 0, 0, 12, 31, 63, 127, 127, 255, 1023]
theorem examboardlaw43_awake.tab6 : rtab .any (opsOf Try.f8 6) = examboardlaw43_awake.T6 := by kernel_rfl
theorem examboardlaw43_awake.bits6 : waitsOk examboardlaw43_awake.T6.2 examboardlaw43_awake.B6 = true := by kernel_rfl
set_option maxHeartbeats 8000000 in
set_option maxRecDepth 100000 in
theorem examboardlaw43_awake.calls (k : Nat)  (r : Bool) (w : World) (h : examboardlaw43_awake.f k  = some r) :
  Calls Try.prog 8 #[] w fun e w' => e = .returned (.bool r) ∧ Below w.heap.size w w' := by
 have hu23 := Try.underlying23
 have hu31 := Try.underlying31
 have HB := Aside0.mk (Below.refl w.heap.size w)
 have H : ((examboardlaw43_sample.f).bind fun bt227 => ((adjudicate_Agree.f k 1 2 bt227.1 bt227.2 (([3] : List Int)) (([2] : List Int))).bind fun bt237 => (examboardlaw43_awake.j0 k bt237.1 bt237.2 1 2))) = some r := h
 clear h
 have HC1 := Aside0.mk H
 clear H
 go_enter Try.func8, Try.ntmps8
 go_upto_region 2 with (first | ((with_reducible refine gate_dst (N := 1) rfl ?_); (try (refine gate_guard (by rfl) ?_; dsimp only)); refine box_event ?hg (N := 1) ?hd (cs := #[.int .i64 0, .int .i64 0]) (t := 23) ?hr ?_; (case hd => rfl); (case hg => rfl); (case hr => first | (go_simp; done) | (go_simp; rfl)); intro gb226 hg w2 hbox hb; have n0_ := Aside0.mk (below_step (Bw HB.out) hb); have n1_ := Aside0.mk (hbox); have n2_ := Aside0.mk (Gs hg (Bw HB.out)); have n3_ := Aside0.mk (Gs hg (Bw HB.out)); clear HB; have HB := n0_; have BK226 := n1_; have GW226 := n2_; have GE226 := n3_; clear n0_ n1_ n2_ n3_; clear hb hbox hg; have hcz3_0 : w2.cell? ⟨gb226, 0, none⟩ = some (.int .i64 0) := (blk_cell BK226.out 0).trans rfl; have hcz3_1 : w2.cell? ⟨gb226, 1, none⟩ = some (.int .i64 0) := (blk_cell BK226.out 1).trans rfl; have hfz3_0 := blk_frozen BK226.out 0; have hfz3_1 := blk_frozen BK226.out 1))
 (try simp only [Act.put, List.setIfInBounds_toArray, List.set_cons_zero, List.set_cons_succ])
 go_cut [2, 3] (fun v2 v3 wc => ∃ (kq : Nat) (x2_0 : Bool) (x3_0 : Int), v2 = .bool x2_0 ∧ v3 = .int .i64 x3_0 ∧ Aside0 (examboardlaw43_awake.j0 kq x2_0 x3_0 1 2 = some r) ∧ Aside0 (kq ≤ k) ∧ Aside0 (wc.heap[gb226]? = some (.cells #[.int .i64 1, .int .i64 2] 23 (0, 0))) ∧ Aside0 (Below w.heap.size w wc))
 case first =>
  have H := HC1.out
  clear HC1
  replace H := Option.bind_eq_some_iff.mp H
  obtain ⟨⟨t227, t228⟩, A40, H⟩ := H
  replace H : ((adjudicate_Agree.f k 1 2 t227 t228 (([3] : List Int)) (([2] : List Int))).bind fun bt237 => (examboardlaw43_awake.j0 k bt237.1 bt237.2 1 2)) = some r := H
  have A4 := Aside0.mk A40
  clear A40
  obtain ⟨y231, hy231⟩ : ∃ y_ : List Int, y_ = (([3] : List Int)) := ⟨_, rfl⟩
  replace H : ((adjudicate_Agree.f k 1 2 t227 t228 y231 (([2] : List Int))).bind fun bt237 => (examboardlaw43_awake.j0 k bt237.1 bt237.2 1 2)) = some r := by first | (rw [hy231]; with_reducible exact H) | (have H2_ := (Option.bind_some _ _).symm.trans H; rw [hy231]; with_reducible exact H2_) | (have H2_ := (Option.bind_some _ _).symm.trans H; with_reducible exact H2_) | with_reducible exact H | (rw [hy231]; exact H) | exact H
  have Ny231 := Aside0.mk hy231
  clear hy231
  obtain ⟨y234, hy234⟩ : ∃ y_ : List Int, y_ = (([2] : List Int)) := ⟨_, rfl⟩
  replace H : ((adjudicate_Agree.f k 1 2 t227 t228 y231 y234).bind fun bt237 => (examboardlaw43_awake.j0 k bt237.1 bt237.2 1 2)) = some r := by first | (rw [hy234]; with_reducible exact H) | (have H2_ := (Option.bind_some _ _).symm.trans H; rw [hy234]; with_reducible exact H2_) | (have H2_ := (Option.bind_some _ _).symm.trans H; with_reducible exact H2_) | with_reducible exact H | (rw [hy234]; exact H) | exact H
  have Ny234 := Aside0.mk hy234
  clear hy234
  replace H := Option.bind_eq_some_iff.mp H
  obtain ⟨⟨t237, t238⟩, A50, H⟩ := H
  replace H : (examboardlaw43_awake.j0 k t237 t238 1 2) = some r := H
  have A5 := Aside0.mk A50
  clear A50
  have H' := Aside0.mk H
  clear H
  try go_wp2
  have n0_ : Aside0 (((w2.setCell ⟨gb226, 0, none⟩ (.int .i64 1)).setCell ⟨gb226, 1, none⟩ (.int .i64 2)).heap[gb226]? = some (.cells #[.int .i64 1, .int .i64 2] 23 (0, 0))) := ⟨by (with_reducible repeat (first | refine blk_drewN ?_ _ | refine blk_drew ?_ | refine blk_alloc ?_ _)); refine blk_put (cs := #[.int .i64 1, .int .i64 0]) ?_ 1 _ rfl; (with_reducible repeat (first | refine blk_drewN ?_ _ | refine blk_drew ?_ | refine blk_alloc ?_ _)); refine blk_put (cs := #[.int .i64 0, .int .i64 0]) ?_ 0 _ rfl; (with_reducible repeat (first | refine blk_drewN ?_ _ | refine blk_drew ?_ | refine blk_alloc ?_ _)); exact BK226.out⟩
  have n1_ : Aside0 (Below w.heap.size w ((w2.setCell ⟨gb226, 0, none⟩ (.int .i64 1)).setCell ⟨gb226, 1, none⟩ (.int .i64 2))) := ⟨Bw HB.out⟩
  (try clear BK226)
  (try clear HB)
  generalize ((w2.setCell ⟨gb226, 0, none⟩ (.int .i64 1)).setCell ⟨gb226, 1, none⟩ (.int .i64 2)) = w6 at n0_ n1_ ⊢
  have BK226 := n0_
  have HB := n1_
  clear n0_ n1_
  have n0_ := Aside0.mk (blk_drew BK226.out)
  have n1_ := Aside0.mk (below_drew1 HB.out)
  clear BK226
  clear HB
  have BK226 := n0_
  have HB := n1_
  clear n0_ n1_
  refine start_ (n := 10) (S := fun w' => True) (ds := []) #[Z,Z,Z,Z,Z,Z,Z,Z,Z,Z] (by kernel_rfl) rfl rfl trivial (fun hHeld => ?_); refine with_tabW examboardlaw43_awake.tab2 examboardlaw43_awake.bits2 (fun HT_ HW_ => ?_)
  generalize w6.drew = w7 at BK226 HB hHeld ⊢
  refine inv_at [0, 1, 2, 3, 4, 5, 6, 7, 8, 9] (fun a0_ b a w' => ∃ (v229 : Value) (v232 : Value) (v235 : Value) (m1_ : Value), a = putSel a0_ b [(0, 16, .agg #[.int .i64 1, .int .i64 2]), (1, 17, m1_), (2, 18, v232), (3, 19, v235), (4, 20, .tuple #[.bool t237, .int .i64 t238]), (5, 15, .tuple #[.bool t237, .int .i64 t238]), (6, 21, .bool t237), (7, 22, .int .i64 t238), (8, 2, .bool t237), (9, 3, .int .i64 t238)] ∧ (w'.heap[gb226]? = some (.cells #[.int .i64 1, .int .i64 2] 23 (0, 0))) ∧ (Below w.heap.size w w') ∧ (b 1 = true → Kd.R k59 59 w' w.heap.size (fun _ => True) v229 t228) ∧ (b 2 = true → Kd.R (Kd.int .i64) 3 w' w.heap.size (fun _ => True) v232 y231) ∧ (b 3 = true → Kd.R (Kd.int .i64) 3 w' w.heap.size (fun _ => True) v235 y234) ∧ (b 1 = true → (m1_ : Value) = .agg #[.int .i64 t227, v229])) HT_.out HW_.out (by kernel_rfl) (by kernel_rfl) ?_ ?_ ?_
  ·
   exact ⟨.bool false, .bool false, .bool false, .bool false, by simp only [putSel, Bool.false_eq_true, if_false], BK226.out, HB.out, fun h_ => absurd h_ (by decide), fun h_ => absurd h_ (by decide), fun h_ => absurd h_ (by decide), fun h_ => absurd h_ (by decide)⟩
  ·
   skip
   clear BK226 HB
   refine steps_cons ?_ ?_
   ·
    rintro b a w' ⟨v229, v232, v235, m1_, ha, Q_BK226, Q_HB, Q_HO230, Q_HO233, Q_HO236, Q_X1_⟩ hb_ hon hoff
    refine ⟨_, rfl, fun K hK => ?_⟩
    have e1 : a.tmps[1]? = some (.pointer (some ⟨gb226, 0, none⟩)) := by rw [ha]; exact (putSel_off rfl).trans rfl
    replace ha := Aside0.mk ha
    have BK226 := Aside0.mk Q_BK226
    have HB := Aside0.mk Q_HB
    have hc0_ : w'.cell? ⟨gb226, 0, none⟩ = some (.int .i64 1) := (blk_cell BK226.out 0).trans rfl
    have hc1_ : w'.cell? ⟨gb226, 1, none⟩ = some (.int .i64 2) := (blk_cell BK226.out 1).trans rfl
    refine value_ (w1 := w') (v := .agg #[.int .i64 1, .int .i64 2]) (by rfl) rfl ?_ ?_
    ·
     go_simp
     (try simp only [i64_w])
     try rfl
    refine hK.out _ _ ⟨v229, v232, v235, m1_, (by rw [ha.out]; exact putSel_upk 0 hb_ rfl rfl rfl), Q_BK226, Q_HB, Q_HO230, Q_HO233, Q_HO236, Q_X1_⟩
   refine steps_cons ?_ ?_
   ·
    rintro b a w' ⟨v229, v232, v235, m1_, ha, Q_BK226, Q_HB, Q_HO230, Q_HO233, Q_HO236, Q_X1_⟩ hb_ hon hoff
    refine ⟨_, rfl, fun K hK => ?_⟩
    replace ha := Aside0.mk ha
    have BK226 := Aside0.mk Q_BK226
    have HB := Aside0.mk Q_HB
    refine goes_ Try.func24 (by kernel_rfl) rfl #[] (by rfl) rfl rfl (by first | (simp only [List.map_toArray, List.map_cons, List.map_nil, Act.eval, Array.getD_eq_getD_getElem?, Option.getD_some]; done) | (simp only [List.map_toArray, List.map_cons, List.map_nil, Act.eval, Array.getD_eq_getD_getElem?, Option.getD_some]; rfl)) ?_
    with_reducible refine (examboardlaw43_sample.calls  t227 t228 _ A4.out).mono ?_
    rintro e w8 ⟨v229, rfl, ho0, hb⟩
    refine ⟨_, rfl, ?_⟩
    have n0_ := Aside0.mk (Kd.R_lower ho0 (below_size (Bw HB.out)))
    have n1_ := Aside0.mk (blk_below (g := gb226) (o := .cells #[.int .i64 1, .int .i64 2] 23 (0, 0)) (Bk BK226.out) hb)
    have n2_ := Aside0.mk (below_step (Bw HB.out) hb)
    have z_HO233 := fun (h0_ : b 2 = true) => (show Kd.R (Kd.int .i64) 3 w8 w.heap.size (fun _ => True) v232 y231 from by first | exact (Kd.R_below (Rk (Q_HO233 h0_)) hb) | exact Kd.R_mono (Kd.R_below (Rk (Q_HO233 h0_)) hb) (fun _ h_ => by first | trivial | exact h_ | exact h_.1))
    have z_HO236 := fun (h0_ : b 3 = true) => (show Kd.R (Kd.int .i64) 3 w8 w.heap.size (fun _ => True) v235 y234 from by first | exact (Kd.R_below (Rk (Q_HO236 h0_)) hb) | exact Kd.R_mono (Kd.R_below (Rk (Q_HO236 h0_)) hb) (fun _ h_ => by first | trivial | exact h_ | exact h_.1))
    clear BK226
    clear HB
    have HO230 := n0_
    have BK226 := n1_
    have HB := n2_
    clear n0_ n1_ n2_
    (try clear hb)
    (try clear hb2)
    (try clear hk)
    (try clear hi)
    (try clear ho0)
    refine hK.out _ _ ⟨v229, v232, v235, (.agg #[.int .i64 t227, v229]), (by rw [ha.out]; exact putSel_upk 1 hb_ rfl rfl rfl), (Bk BK226.out), (Bw HB.out), fun _ => (Rk HO230.out), z_HO233, z_HO236, fun _ => rfl⟩
   refine steps_cons ?_ ?_
   ·
    rintro b a w' ⟨v229, v232, v235, m1_, ha, Q_BK226, Q_HB, Q_HO230, Q_HO233, Q_HO236, Q_X1_⟩ hb_ hon hoff
    refine ⟨_, rfl, fun K hK => ?_⟩
    replace ha := Aside0.mk ha
    have BK226 := Aside0.mk Q_BK226
    have HB := Aside0.mk Q_HB
    refine Kd.R_lit_step (Kd.int .i64) _ 3 ?hg (N := 18) ?hd (xs := ([3] : List Int)) (inner := [.int .i64 3]) (ok := fun _ => True) (okp := fun _ => True) ?hr ?hp (fun _ hk => hk) trivial (Below.refl _ _) (Nat.le_refl _) (by simp) ?_; (case hd => rfl); (case hg => rfl); (case hr => first | (go_simp; done) | (go_simp; rfl)); (case hp => exact (Reps.one (show Kd.M (Kd.int .i64) _ _ _ 3 [.int .i64 3] from rfl) (Reps.none _ _)))
    intro v232 w8 ho9 hb hg_ hnew_
    clear hg_ hnew_
    (first | rw [← Ny231.out] at ho9 | (simp only [Int.reduceToNat] at ho9; rw [← Ny231.out] at ho9))
    have n0_ := Aside0.mk (Kd.R_lower ho9 (below_size (Bw HB.out)))
    have n1_ := Aside0.mk (blk_below (g := gb226) (o := .cells #[.int .i64 1, .int .i64 2] 23 (0, 0)) (Bk BK226.out) hb)
    have n2_ := Aside0.mk (below_step (Bw HB.out) hb)
    have z_HO230 := fun (h0_ : b 1 = true) => (show Kd.R k59 59 w8 w.heap.size (fun _ => True) v229 t228 from by first | exact (Kd.R_below (Rk (Q_HO230 h0_)) hb) | exact Kd.R_mono (Kd.R_below (Rk (Q_HO230 h0_)) hb) (fun _ h_ => by first | trivial | exact h_ | exact h_.1))
    have z_HO236 := fun (h0_ : b 3 = true) => (show Kd.R (Kd.int .i64) 3 w8 w.heap.size (fun _ => True) v235 y234 from by first | exact (Kd.R_elder' (Rk (Q_HO236 h0_)) (Kd.R_base ho9) hb) | exact Kd.R_mono (Kd.R_elder' (Rk (Q_HO236 h0_)) (Kd.R_base ho9) hb) (fun _ h_ => by first | trivial | exact h_ | exact h_.1))
    clear BK226
    clear HB
    have HO233 := n0_
    have BK226 := n1_
    have HB := n2_
    clear n0_ n1_ n2_
    clear hb ho9
    refine hK.out _ _ ⟨v229, v232, v235, m1_, (by rw [ha.out]; exact putSel_upk 2 hb_ rfl rfl rfl), (Bk BK226.out), (Bw HB.out), z_HO230, fun _ => (Rk HO233.out), z_HO236, Q_X1_⟩
   refine steps_cons ?_ ?_
   ·
    rintro b a w' ⟨v229, v232, v235, m1_, ha, Q_BK226, Q_HB, Q_HO230, Q_HO233, Q_HO236, Q_X1_⟩ hb_ hon hoff
    refine ⟨_, rfl, fun K hK => ?_⟩
    replace ha := Aside0.mk ha
    have BK226 := Aside0.mk Q_BK226
    have HB := Aside0.mk Q_HB
    refine Kd.R_lit_step (Kd.int .i64) _ 3 ?hg (N := 19) ?hd (xs := ([2] : List Int)) (inner := [.int .i64 2]) (ok := fun _ => True) (okp := fun _ => True) ?hr ?hp (fun _ hk => hk) trivial (Below.refl _ _) (Nat.le_refl _) (by simp) ?_; (case hd => rfl); (case hg => rfl); (case hr => first | (go_simp; done) | (go_simp; rfl)); (case hp => exact (Reps.one (show Kd.M (Kd.int .i64) _ _ _ 2 [.int .i64 2] from rfl) (Reps.none _ _)))
    intro v235 w8 ho9 hb hg_ hnew_
    clear hg_ hnew_
    (first | rw [← Ny234.out] at ho9 | (simp only [Int.reduceToNat] at ho9; rw [← Ny234.out] at ho9))
    have n0_ := Aside0.mk (Kd.R_lower ho9 (below_size (Bw HB.out)))
    have n1_ := Aside0.mk (blk_below (g := gb226) (o := .cells #[.int .i64 1, .int .i64 2] 23 (0, 0)) (Bk BK226.out) hb)
    have n2_ := Aside0.mk (below_step (Bw HB.out) hb)
    have z_HO230 := fun (h0_ : b 1 = true) => (show Kd.R k59 59 w8 w.heap.size (fun _ => True) v229 t228 from by first | exact (Kd.R_below (Rk (Q_HO230 h0_)) hb) | exact Kd.R_mono (Kd.R_below (Rk (Q_HO230 h0_)) hb) (fun _ h_ => by first | trivial | exact h_ | exact h_.1))
    have z_HO233 := fun (h0_ : b 2 = true) => (show Kd.R (Kd.int .i64) 3 w8 w.heap.size (fun _ => True) v232 y231 from by first | exact (Kd.R_elder' (Rk (Q_HO233 h0_)) (Kd.R_base ho9) hb) | exact Kd.R_mono (Kd.R_elder' (Rk (Q_HO233 h0_)) (Kd.R_base ho9) hb) (fun _ h_ => by first | trivial | exact h_ | exact h_.1))
    clear BK226
    clear HB
    have HO236 := n0_
    have BK226 := n1_
    have HB := n2_
    clear n0_ n1_ n2_
    clear hb ho9
    refine hK.out _ _ ⟨v229, v232, v235, m1_, (by rw [ha.out]; exact putSel_upk 3 hb_ rfl rfl rfl), (Bk BK226.out), (Bw HB.out), z_HO230, z_HO233, fun _ => (Rk HO236.out), Q_X1_⟩
   refine steps_cons ?_ ?_
   ·
    rintro b a w' ⟨v229, v232, v235, m1_, ha, Q_BK226, Q_HB, Q_HO230, Q_HO233, Q_HO236, Q_X1_⟩ hb_ hon hoff
    refine ⟨_, rfl, fun K hK => ?_⟩
    have e16 : a.tmps[16]? = some (.agg #[.int .i64 1, .int .i64 2]) := by rw [ha]; exact putSel_on (e := (0, 16, .agg #[.int .i64 1, .int .i64 2])) 0 rfl rfl (hon 0 (by kernel_rfl)) rfl
    have e17 : a.tmps[17]? = some (m1_) := by rw [ha]; exact putSel_on (e := (1, 17, m1_)) 1 rfl rfl (hon 1 (by kernel_rfl)) rfl
    rw [Q_X1_ (hon 1 (by kernel_rfl))] at e17
    have e18 : a.tmps[18]? = some (v232) := by rw [ha]; exact putSel_on (e := (2, 18, v232)) 2 rfl rfl (hon 2 (by kernel_rfl)) rfl
    have e19 : a.tmps[19]? = some (v235) := by rw [ha]; exact putSel_on (e := (3, 19, v235)) 3 rfl rfl (hon 3 (by kernel_rfl)) rfl
    replace ha := Aside0.mk ha
    have BK226 := Aside0.mk Q_BK226
    have HB := Aside0.mk Q_HB
    have HO230 := Aside0.mk (Q_HO230 (hon 1 (by kernel_rfl)))
    have HO233 := Aside0.mk (Q_HO233 (hon 2 (by kernel_rfl)))
    have HO236 := Aside0.mk (Q_HO236 (hon 3 (by kernel_rfl)))
    obtain ⟨Ao14, co14, eo14⟩ := Kd.R_slice HO230.out
    (first | subst eo14 | (injection eo14 with f1_ f2_ f3_; have f4_ := f1_.symm; have f5_ := f3_.symm; clear f1_ f2_ f3_; subst f4_; subst f5_))
    obtain ⟨Ao15, co15, eo15⟩ := Kd.R_slice HO233.out
    (first | subst eo15 | (injection eo15 with f1_ f2_ f3_; have f4_ := f1_.symm; have f5_ := f3_.symm; clear f1_ f2_ f3_; subst f4_; subst f5_))
    obtain ⟨Ao16, co16, eo16⟩ := Kd.R_slice HO236.out
    (first | subst eo16 | (injection eo16 with f1_ f2_ f3_; have f4_ := f1_.symm; have f5_ := f3_.symm; clear f1_ f2_ f3_; subst f4_; subst f5_))
    refine goes_ Try.func14 (by kernel_rfl) rfl #[.agg #[.int .i64 1, .int .i64 2], .agg #[.int .i64 t227, .slice Ao14 t228.length co14], .slice Ao15 y231.length co15, .slice Ao16 y234.length co16] (by rfl) rfl rfl (by first | (simp only [List.map_toArray, List.map_cons, List.map_nil, Act.eval, Array.getD_eq_getD_getElem?, Option.getD_some, e16, e17, e18, e19]; done) | (simp only [List.map_toArray, List.map_cons, List.map_nil, Act.eval, Array.getD_eq_getD_getElem?, Option.getD_some, e16, e17, e18, e19]; rfl)) ?_
    with_reducible refine (adjudicate_Agree.calls k 1 2 t227 _ _ t228 _ _ y231 _ _ y234 t237 t238 _ ?side1 ?side2 ?side3 ?side4 ?side5 ?side6 A5.out).mono ?_
    (case side1 => exact Ck (Kd.R_reads' HO230.out).2.2)
    (case side2 => exact (Kd.R_reads' HO230.out).2.1)
    (case side3 => exact Ck (Kd.R_reads' HO233.out).2.2)
    (case side4 => exact (Kd.R_reads' HO233.out).2.1)
    (case side5 => exact Ck (Kd.R_reads' HO236.out).2.2)
    (case side6 => exact (Kd.R_reads' HO236.out).2.1)
    rintro e w17 ⟨rfl, hb⟩
    refine ⟨_, rfl, ?_⟩
    have n0_ := Aside0.mk (Kd.R_below (Rk HO230.out) hb)
    have n1_ := Aside0.mk (Kd.R_below (Rk HO233.out) hb)
    have n2_ := Aside0.mk (Kd.R_below (Rk HO236.out) hb)
    have n3_ := Aside0.mk (blk_below (g := gb226) (o := .cells #[.int .i64 1, .int .i64 2] 23 (0, 0)) (Bk BK226.out) hb)
    have n4_ := Aside0.mk (below_step (Bw HB.out) hb)
    clear HO230
    clear HO233
    clear HO236
    clear BK226
    clear HB
    have HO230 := n0_
    have HO233 := n1_
    have HO236 := n2_
    have BK226 := n3_
    have HB := n4_
    clear n0_ n1_ n2_ n3_ n4_
    (try clear hb)
    (try clear hb2)
    (try clear hk)
    (try clear hi)
    refine hK.out _ _ ⟨.slice Ao14 t228.length co14, .slice Ao15 y231.length co15, .slice Ao16 y234.length co16, m1_, (by rw [ha.out]; exact putSel_upk 4 hb_ rfl rfl rfl), (Bk BK226.out), (Bw HB.out), fun _ => (Rk HO230.out), fun _ => (Rk HO233.out), fun _ => (Rk HO236.out), Q_X1_⟩
   refine steps_cons ?_ ?_
   ·
    rintro b a w' ⟨v229, v232, v235, m1_, ha, Q_BK226, Q_HB, Q_HO230, Q_HO233, Q_HO236, Q_X1_⟩ hb_ hon hoff
    refine ⟨_, rfl, fun K hK => ?_⟩
    have e20 : a.tmps[20]? = some (.tuple #[.bool t237, .int .i64 t238]) := by rw [ha]; exact putSel_on (e := (4, 20, .tuple #[.bool t237, .int .i64 t238])) 4 rfl rfl (hon 4 (by kernel_rfl)) rfl
    replace ha := Aside0.mk ha
    have BK226 := Aside0.mk Q_BK226
    have HB := Aside0.mk Q_HB
    have HO230 := Aside0.mk (Q_HO230 (hon 1 (by kernel_rfl)))
    have HO233 := Aside0.mk (Q_HO233 (hon 2 (by kernel_rfl)))
    have HO236 := Aside0.mk (Q_HO236 (hon 3 (by kernel_rfl)))
    refine value_ (w1 := w') (v := .tuple #[.bool t237, .int .i64 t238]) (by rfl) rfl ?_ ?_
    ·
     go_simp
     (try simp only [i64_w])
     try rfl
    refine hK.out _ _ ⟨v229, v232, v235, m1_, (by rw [ha.out]; exact putSel_upk 5 hb_ rfl rfl rfl), Q_BK226, Q_HB, Q_HO230, Q_HO233, Q_HO236, Q_X1_⟩
   refine steps_cons ?_ ?_
   ·
    rintro b a w' ⟨v229, v232, v235, m1_, ha, Q_BK226, Q_HB, Q_HO230, Q_HO233, Q_HO236, Q_X1_⟩ hb_ hon hoff
    refine ⟨_, rfl, fun K hK => ?_⟩
    have e15 : a.tmps[15]? = some (.tuple #[.bool t237, .int .i64 t238]) := by rw [ha]; exact putSel_on (e := (5, 15, .tuple #[.bool t237, .int .i64 t238])) 5 rfl rfl (hon 5 (by kernel_rfl)) rfl
    replace ha := Aside0.mk ha
    have BK226 := Aside0.mk Q_BK226
    have HB := Aside0.mk Q_HB
    have HO230 := Aside0.mk (Q_HO230 (hon 1 (by kernel_rfl)))
    have HO233 := Aside0.mk (Q_HO233 (hon 2 (by kernel_rfl)))
    have HO236 := Aside0.mk (Q_HO236 (hon 3 (by kernel_rfl)))
    refine value_ (w1 := w') (v := .bool t237) (by rfl) rfl ?_ ?_
    ·
     go_simp
     (try simp only [i64_w])
     try rfl
    refine hK.out _ _ ⟨v229, v232, v235, m1_, (by rw [ha.out]; exact putSel_upk 6 hb_ rfl rfl rfl), Q_BK226, Q_HB, Q_HO230, Q_HO233, Q_HO236, Q_X1_⟩
   refine steps_cons ?_ ?_
   ·
    rintro b a w' ⟨v229, v232, v235, m1_, ha, Q_BK226, Q_HB, Q_HO230, Q_HO233, Q_HO236, Q_X1_⟩ hb_ hon hoff
    refine ⟨_, rfl, fun K hK => ?_⟩
    have e15 : a.tmps[15]? = some (.tuple #[.bool t237, .int .i64 t238]) := by rw [ha]; exact putSel_on (e := (5, 15, .tuple #[.bool t237, .int .i64 t238])) 5 rfl rfl (hon 5 (by kernel_rfl)) rfl
    replace ha := Aside0.mk ha
    have BK226 := Aside0.mk Q_BK226
    have HB := Aside0.mk Q_HB
    have HO230 := Aside0.mk (Q_HO230 (hon 1 (by kernel_rfl)))
    have HO233 := Aside0.mk (Q_HO233 (hon 2 (by kernel_rfl)))
    have HO236 := Aside0.mk (Q_HO236 (hon 3 (by kernel_rfl)))
    refine value_ (w1 := w') (v := .int .i64 t238) (by rfl) rfl ?_ ?_
    ·
     go_simp
     (try simp only [i64_w])
     try rfl
    refine hK.out _ _ ⟨v229, v232, v235, m1_, (by rw [ha.out]; exact putSel_upk 7 hb_ rfl rfl rfl), Q_BK226, Q_HB, Q_HO230, Q_HO233, Q_HO236, Q_X1_⟩
   refine steps_cons ?_ ?_
   ·
    rintro b a w' ⟨v229, v232, v235, m1_, ha, Q_BK226, Q_HB, Q_HO230, Q_HO233, Q_HO236, Q_X1_⟩ hb_ hon hoff
    refine ⟨_, rfl, fun K hK => ?_⟩
    have e21 : a.tmps[21]? = some (.bool t237) := by rw [ha]; exact putSel_on (e := (6, 21, .bool t237)) 6 rfl rfl (hon 6 (by kernel_rfl)) rfl
    replace ha := Aside0.mk ha
    have BK226 := Aside0.mk Q_BK226
    have HB := Aside0.mk Q_HB
    have HO230 := Aside0.mk (Q_HO230 (hon 1 (by kernel_rfl)))
    have HO233 := Aside0.mk (Q_HO233 (hon 2 (by kernel_rfl)))
    have HO236 := Aside0.mk (Q_HO236 (hon 3 (by kernel_rfl)))
    refine value_ (w1 := w') (v := .bool t237) (by rfl) rfl ?_ ?_
    ·
     go_simp
     (try simp only [i64_w])
     try rfl
    refine hK.out _ _ ⟨v229, v232, v235, m1_, (by rw [ha.out]; exact putSel_upk 8 hb_ rfl rfl rfl), Q_BK226, Q_HB, Q_HO230, Q_HO233, Q_HO236, Q_X1_⟩
   refine steps_cons ?_ ?_
   ·
    rintro b a w' ⟨v229, v232, v235, m1_, ha, Q_BK226, Q_HB, Q_HO230, Q_HO233, Q_HO236, Q_X1_⟩ hb_ hon hoff
    refine ⟨_, rfl, fun K hK => ?_⟩
    have e22 : a.tmps[22]? = some (.int .i64 t238) := by rw [ha]; exact putSel_on (e := (7, 22, .int .i64 t238)) 7 rfl rfl (hon 7 (by kernel_rfl)) rfl
    replace ha := Aside0.mk ha
    have BK226 := Aside0.mk Q_BK226
    have HB := Aside0.mk Q_HB
    have HO230 := Aside0.mk (Q_HO230 (hon 1 (by kernel_rfl)))
    have HO233 := Aside0.mk (Q_HO233 (hon 2 (by kernel_rfl)))
    have HO236 := Aside0.mk (Q_HO236 (hon 3 (by kernel_rfl)))
    refine value_ (w1 := w') (v := .int .i64 t238) (by rfl) rfl ?_ ?_
    ·
     go_simp
     (try simp only [i64_w])
     try rfl
    refine hK.out _ _ ⟨v229, v232, v235, m1_, (by rw [ha.out]; exact putSel_upk 9 hb_ rfl rfl rfl), Q_BK226, Q_HB, Q_HO230, Q_HO233, Q_HO236, Q_X1_⟩
   exact steps_nil
  rintro b a w17 hall ⟨v229, v232, v235, m1_, ha, Q_BK226, Q_HB, Q_HO230, Q_HO233, Q_HO236, Q_X1_⟩
  clear BK226 HB
  have hb0_ := hall 0 (by kernel_rfl)
  have hb1_ := hall 1 (by kernel_rfl)
  have hb2_ := hall 2 (by kernel_rfl)
  have hb3_ := hall 3 (by kernel_rfl)
  have hb4_ := hall 4 (by kernel_rfl)
  have hb5_ := hall 5 (by kernel_rfl)
  have hb6_ := hall 6 (by kernel_rfl)
  have hb7_ := hall 7 (by kernel_rfl)
  have hb8_ := hall 8 (by kernel_rfl)
  have hb9_ := hall 9 (by kernel_rfl)
  subst ha
  obtain rfl := Q_X1_ hb1_
  simp only [putSel, hb0_, hb1_, hb2_, hb3_, hb4_, hb5_, hb6_, hb7_, hb8_, hb9_, if_true, Act.put, List.setIfInBounds_toArray, List.set_cons_zero, List.set_cons_succ]
  have BK226 := Aside0.mk Q_BK226
  clear Q_BK226
  have HB := Aside0.mk Q_HB
  clear Q_HB
  have HO230 := Aside0.mk (Q_HO230 hb1_)
  clear Q_HO230
  have HO233 := Aside0.mk (Q_HO233 hb2_)
  clear Q_HO233
  have HO236 := Aside0.mk (Q_HO236 hb3_)
  clear Q_HO236
  clear hall hb0_ hb1_ hb2_ hb3_ hb4_ hb5_ hb6_ hb7_ hb8_ hb9_
  try go_wp2
  go_meet
  case rel => exact ⟨_, (t237), (t238), (by first | rfl | (simp; done) | (simp [*]; done)), (by first | rfl | (simp; done) | (simp [*]; done)), H', ⟨by first | omega | exact Nat.le_refl _⟩, ⟨Bk BK226.out⟩, ⟨Bw HB.out⟩⟩
 case rest =>
  clear HC1
  (try clear c1); (try clear c2); (try clear p2); (try clear c8); (try clear c14); (try clear hcz3_0); (try clear hcz3_1); (try clear hfz3_0); (try clear hfz3_1)
  obtain ⟨kq, x2_0, x3_0, rfl, rfl, HA, HJ0, BK226, HB⟩ := hcut
  cases kq with
  | zero => exact absurd HA.out (by simp [examboardlaw43_awake.j0])
  | succ kj0 =>
   have H := HA.out
   clear HA
   simp only [examboardlaw43_awake.j0] at H
   have HC18 := Aside0.mk H
   clear H
   go_upto_region 3 with (fail)
   go_cut [4, 5] (fun v4 v5 wc => ∃ (kq : Nat) (x4_17 : Bool) (x5_17 : Int), v4 = .bool x4_17 ∧ v5 = .int .i64 x5_17 ∧ Aside0 (examboardlaw43_awake.j1 kq x2_0 x3_0 x4_17 x5_17 1 2 = some r) ∧ Aside0 (kq ≤ kj0) ∧ Aside0 (wc.heap[gb226]? = some (.cells #[.int .i64 1, .int .i64 2] 23 (0, 0))) ∧ Aside0 (Below w.heap.size w wc))
   case first =>
    have H := HC18.out
    clear HC18
    replace H := Option.bind_eq_some_iff.mp H
    obtain ⟨⟨t239, t240⟩, A190, H⟩ := H
    replace H : ((adjudicate_Agree.f kj0 1 2 t239 t240 (([3] : List Int)) (([1] : List Int))).bind fun bt249 => (examboardlaw43_awake.j1 kj0 x2_0 x3_0 bt249.1 bt249.2 1 2)) = some r := H
    have A19 := Aside0.mk A190
    clear A190
    obtain ⟨y243, hy243⟩ : ∃ y_ : List Int, y_ = (([3] : List Int)) := ⟨_, rfl⟩
    replace H : ((adjudicate_Agree.f kj0 1 2 t239 t240 y243 (([1] : List Int))).bind fun bt249 => (examboardlaw43_awake.j1 kj0 x2_0 x3_0 bt249.1 bt249.2 1 2)) = some r := by first | (rw [hy243]; with_reducible exact H) | (have H2_ := (Option.bind_some _ _).symm.trans H; rw [hy243]; with_reducible exact H2_) | (have H2_ := (Option.bind_some _ _).symm.trans H; with_reducible exact H2_) | with_reducible exact H | (rw [hy243]; exact H) | exact H
    have Ny243 := Aside0.mk hy243
    clear hy243
    obtain ⟨y246, hy246⟩ : ∃ y_ : List Int, y_ = (([1] : List Int)) := ⟨_, rfl⟩
    replace H : ((adjudicate_Agree.f kj0 1 2 t239 t240 y243 y246).bind fun bt249 => (examboardlaw43_awake.j1 kj0 x2_0 x3_0 bt249.1 bt249.2 1 2)) = some r := by first | (rw [hy246]; with_reducible exact H) | (have H2_ := (Option.bind_some _ _).symm.trans H; rw [hy246]; with_reducible exact H2_) | (have H2_ := (Option.bind_some _ _).symm.trans H; with_reducible exact H2_) | with_reducible exact H | (rw [hy246]; exact H) | exact H
    have Ny246 := Aside0.mk hy246
    clear hy246
    replace H := Option.bind_eq_some_iff.mp H
    obtain ⟨⟨t249, t250⟩, A200, H⟩ := H
    replace H : (examboardlaw43_awake.j1 kj0 x2_0 x3_0 t249 t250 1 2) = some r := H
    have A20 := Aside0.mk A200
    clear A200
    have H' := Aside0.mk H
    clear H
    try go_wp2
    have n0_ := Aside0.mk (blk_drew BK226.out)
    have n1_ := Aside0.mk (below_drew1 HB.out)
    clear BK226
    clear HB
    have BK226 := n0_
    have HB := n1_
    clear n0_ n1_
    refine start_ (n := 10) (S := fun w' => True) (ds := []) #[Z,Z,Z,Z,Z,Z,Z,Z,Z,Z] (by kernel_rfl) rfl rfl trivial (fun hHeld => ?_); refine with_tabW examboardlaw43_awake.tab3 examboardlaw43_awake.bits3 (fun HT_ HW_ => ?_)
    generalize wc.drew = w21 at BK226 HB hHeld ⊢
    refine inv_at [0, 1, 2, 3, 4, 5, 6, 7, 8, 9] (fun a0_ b a w' => ∃ (v241 : Value) (v244 : Value) (v247 : Value) (m1_ : Value), a = putSel a0_ b [(0, 24, .agg #[.int .i64 1, .int .i64 2]), (1, 25, m1_), (2, 26, v244), (3, 27, v247), (4, 28, .tuple #[.bool t249, .int .i64 t250]), (5, 23, .tuple #[.bool t249, .int .i64 t250]), (6, 29, .bool t249), (7, 30, .int .i64 t250), (8, 4, .bool t249), (9, 5, .int .i64 t250)] ∧ (w'.heap[gb226]? = some (.cells #[.int .i64 1, .int .i64 2] 23 (0, 0))) ∧ (Below w.heap.size w w') ∧ (b 1 = true → Kd.R k59 59 w' w.heap.size (fun _ => True) v241 t240) ∧ (b 2 = true → Kd.R (Kd.int .i64) 3 w' w.heap.size (fun _ => True) v244 y243) ∧ (b 3 = true → Kd.R (Kd.int .i64) 3 w' w.heap.size (fun _ => True) v247 y246) ∧ (b 1 = true → (m1_ : Value) = .agg #[.int .i64 t239, v241])) HT_.out HW_.out (by kernel_rfl) (by kernel_rfl) ?_ ?_ ?_
    ·
     exact ⟨.bool false, .bool false, .bool false, .bool false, by simp only [putSel, Bool.false_eq_true, if_false], BK226.out, HB.out, fun h_ => absurd h_ (by decide), fun h_ => absurd h_ (by decide), fun h_ => absurd h_ (by decide), fun h_ => absurd h_ (by decide)⟩
    ·
     skip
     clear BK226 HB
     refine steps_cons ?_ ?_
     ·
      rintro b a w' ⟨v241, v244, v247, m1_, ha, Q_BK226, Q_HB, Q_HO242, Q_HO245, Q_HO248, Q_X1_⟩ hb_ hon hoff
      refine ⟨_, rfl, fun K hK => ?_⟩
      have e1 : a.tmps[1]? = some (.pointer (some ⟨gb226, 0, none⟩)) := by rw [ha]; exact (putSel_off rfl).trans rfl
      replace ha := Aside0.mk ha
      have BK226 := Aside0.mk Q_BK226
      have HB := Aside0.mk Q_HB
      have hc0_ : w'.cell? ⟨gb226, 0, none⟩ = some (.int .i64 1) := (blk_cell BK226.out 0).trans rfl
      have hc1_ : w'.cell? ⟨gb226, 1, none⟩ = some (.int .i64 2) := (blk_cell BK226.out 1).trans rfl
      refine value_ (w1 := w') (v := .agg #[.int .i64 1, .int .i64 2]) (by rfl) rfl ?_ ?_
      ·
       go_simp
       (try simp only [i64_w])
       try rfl
      refine hK.out _ _ ⟨v241, v244, v247, m1_, (by rw [ha.out]; exact putSel_upk 0 hb_ rfl rfl rfl), Q_BK226, Q_HB, Q_HO242, Q_HO245, Q_HO248, Q_X1_⟩
     refine steps_cons ?_ ?_
     ·
      rintro b a w' ⟨v241, v244, v247, m1_, ha, Q_BK226, Q_HB, Q_HO242, Q_HO245, Q_HO248, Q_X1_⟩ hb_ hon hoff
      refine ⟨_, rfl, fun K hK => ?_⟩
      replace ha := Aside0.mk ha
      have BK226 := Aside0.mk Q_BK226
      have HB := Aside0.mk Q_HB
      refine goes_ Try.func24 (by kernel_rfl) rfl #[] (by rfl) rfl rfl (by first | (simp only [List.map_toArray, List.map_cons, List.map_nil, Act.eval, Array.getD_eq_getD_getElem?, Option.getD_some]; done) | (simp only [List.map_toArray, List.map_cons, List.map_nil, Act.eval, Array.getD_eq_getD_getElem?, Option.getD_some]; rfl)) ?_
      with_reducible refine (examboardlaw43_sample.calls  t239 t240 _ A19.out).mono ?_
      rintro e w22 ⟨v241, rfl, ho0, hb⟩
      refine ⟨_, rfl, ?_⟩
      have n0_ := Aside0.mk (Kd.R_lower ho0 (below_size (Bw HB.out)))
      have n1_ := Aside0.mk (blk_below (g := gb226) (o := .cells #[.int .i64 1, .int .i64 2] 23 (0, 0)) (Bk BK226.out) hb)
      have n2_ := Aside0.mk (below_step (Bw HB.out) hb)
      have z_HO245 := fun (h0_ : b 2 = true) => (show Kd.R (Kd.int .i64) 3 w22 w.heap.size (fun _ => True) v244 y243 from by first | exact (Kd.R_below (Rk (Q_HO245 h0_)) hb) | exact Kd.R_mono (Kd.R_below (Rk (Q_HO245 h0_)) hb) (fun _ h_ => by first | trivial | exact h_ | exact h_.1))
      have z_HO248 := fun (h0_ : b 3 = true) => (show Kd.R (Kd.int .i64) 3 w22 w.heap.size (fun _ => True) v247 y246 from by first | exact (Kd.R_below (Rk (Q_HO248 h0_)) hb) | exact Kd.R_mono (Kd.R_below (Rk (Q_HO248 h0_)) hb) (fun _ h_ => by first | trivial | exact h_ | exact h_.1))
      clear BK226
      clear HB
      have HO242 := n0_
      have BK226 := n1_
      have HB := n2_
      clear n0_ n1_ n2_
      (try clear hb)
      (try clear hb2)
      (try clear hk)
      (try clear hi)
      (try clear ho0)
      refine hK.out _ _ ⟨v241, v244, v247, (.agg #[.int .i64 t239, v241]), (by rw [ha.out]; exact putSel_upk 1 hb_ rfl rfl rfl), (Bk BK226.out), (Bw HB.out), fun _ => (Rk HO242.out), z_HO245, z_HO248, fun _ => rfl⟩
     refine steps_cons ?_ ?_
     ·
      rintro b a w' ⟨v241, v244, v247, m1_, ha, Q_BK226, Q_HB, Q_HO242, Q_HO245, Q_HO248, Q_X1_⟩ hb_ hon hoff
      refine ⟨_, rfl, fun K hK => ?_⟩
      replace ha := Aside0.mk ha
      have BK226 := Aside0.mk Q_BK226
      have HB := Aside0.mk Q_HB
      refine Kd.R_lit_step (Kd.int .i64) _ 3 ?hg (N := 26) ?hd (xs := ([3] : List Int)) (inner := [.int .i64 3]) (ok := fun _ => True) (okp := fun _ => True) ?hr ?hp (fun _ hk => hk) trivial (Below.refl _ _) (Nat.le_refl _) (by simp) ?_; (case hd => rfl); (case hg => rfl); (case hr => first | (go_simp; done) | (go_simp; rfl)); (case hp => exact (Reps.one (show Kd.M (Kd.int .i64) _ _ _ 3 [.int .i64 3] from rfl) (Reps.none _ _)))
      intro v244 w22 ho23 hb hg_ hnew_
      clear hg_ hnew_
      (first | rw [← Ny243.out] at ho23 | (simp only [Int.reduceToNat] at ho23; rw [← Ny243.out] at ho23))
      have n0_ := Aside0.mk (Kd.R_lower ho23 (below_size (Bw HB.out)))
      have n1_ := Aside0.mk (blk_below (g := gb226) (o := .cells #[.int .i64 1, .int .i64 2] 23 (0, 0)) (Bk BK226.out) hb)
      have n2_ := Aside0.mk (below_step (Bw HB.out) hb)
      have z_HO242 := fun (h0_ : b 1 = true) => (show Kd.R k59 59 w22 w.heap.size (fun _ => True) v241 t240 from by first | exact (Kd.R_below (Rk (Q_HO242 h0_)) hb) | exact Kd.R_mono (Kd.R_below (Rk (Q_HO242 h0_)) hb) (fun _ h_ => by first | trivial | exact h_ | exact h_.1))
      have z_HO248 := fun (h0_ : b 3 = true) => (show Kd.R (Kd.int .i64) 3 w22 w.heap.size (fun _ => True) v247 y246 from by first | exact (Kd.R_elder' (Rk (Q_HO248 h0_)) (Kd.R_base ho23) hb) | exact Kd.R_mono (Kd.R_elder' (Rk (Q_HO248 h0_)) (Kd.R_base ho23) hb) (fun _ h_ => by first | trivial | exact h_ | exact h_.1))
      clear BK226
      clear HB
      have HO245 := n0_
      have BK226 := n1_
      have HB := n2_
      clear n0_ n1_ n2_
      clear hb ho23
      refine hK.out _ _ ⟨v241, v244, v247, m1_, (by rw [ha.out]; exact putSel_upk 2 hb_ rfl rfl rfl), (Bk BK226.out), (Bw HB.out), z_HO242, fun _ => (Rk HO245.out), z_HO248, Q_X1_⟩
     refine steps_cons ?_ ?_
     ·
      rintro b a w' ⟨v241, v244, v247, m1_, ha, Q_BK226, Q_HB, Q_HO242, Q_HO245, Q_HO248, Q_X1_⟩ hb_ hon hoff
      refine ⟨_, rfl, fun K hK => ?_⟩
      replace ha := Aside0.mk ha
      have BK226 := Aside0.mk Q_BK226
      have HB := Aside0.mk Q_HB
      refine Kd.R_lit_step (Kd.int .i64) _ 3 ?hg (N := 27) ?hd (xs := ([1] : List Int)) (inner := [.int .i64 1]) (ok := fun _ => True) (okp := fun _ => True) ?hr ?hp (fun _ hk => hk) trivial (Below.refl _ _) (Nat.le_refl _) (by simp) ?_; (case hd => rfl); (case hg => rfl); (case hr => first | (go_simp; done) | (go_simp; rfl)); (case hp => exact (Reps.one (show Kd.M (Kd.int .i64) _ _ _ 1 [.int .i64 1] from rfl) (Reps.none _ _)))
      intro v247 w22 ho23 hb hg_ hnew_
      clear hg_ hnew_
      (first | rw [← Ny246.out] at ho23 | (simp only [Int.reduceToNat] at ho23; rw [← Ny246.out] at ho23))
      have n0_ := Aside0.mk (Kd.R_lower ho23 (below_size (Bw HB.out)))
      have n1_ := Aside0.mk (blk_below (g := gb226) (o := .cells #[.int .i64 1, .int .i64 2] 23 (0, 0)) (Bk BK226.out) hb)
      have n2_ := Aside0.mk (below_step (Bw HB.out) hb)
      have z_HO242 := fun (h0_ : b 1 = true) => (show Kd.R k59 59 w22 w.heap.size (fun _ => True) v241 t240 from by first | exact (Kd.R_below (Rk (Q_HO242 h0_)) hb) | exact Kd.R_mono (Kd.R_below (Rk (Q_HO242 h0_)) hb) (fun _ h_ => by first | trivial | exact h_ | exact h_.1))
      have z_HO245 := fun (h0_ : b 2 = true) => (show Kd.R (Kd.int .i64) 3 w22 w.heap.size (fun _ => True) v244 y243 from by first | exact (Kd.R_elder' (Rk (Q_HO245 h0_)) (Kd.R_base ho23) hb) | exact Kd.R_mono (Kd.R_elder' (Rk (Q_HO245 h0_)) (Kd.R_base ho23) hb) (fun _ h_ => by first | trivial | exact h_ | exact h_.1))
      clear BK226
      clear HB
      have HO248 := n0_
      have BK226 := n1_
      have HB := n2_
      clear n0_ n1_ n2_
      clear hb ho23
      refine hK.out _ _ ⟨v241, v244, v247, m1_, (by rw [ha.out]; exact putSel_upk 3 hb_ rfl rfl rfl), (Bk BK226.out), (Bw HB.out), z_HO242, z_HO245, fun _ => (Rk HO248.out), Q_X1_⟩
     refine steps_cons ?_ ?_
     ·
      rintro b a w' ⟨v241, v244, v247, m1_, ha, Q_BK226, Q_HB, Q_HO242, Q_HO245, Q_HO248, Q_X1_⟩ hb_ hon hoff
      refine ⟨_, rfl, fun K hK => ?_⟩
      have e24 : a.tmps[24]? = some (.agg #[.int .i64 1, .int .i64 2]) := by rw [ha]; exact putSel_on (e := (0, 24, .agg #[.int .i64 1, .int .i64 2])) 0 rfl rfl (hon 0 (by kernel_rfl)) rfl
      have e25 : a.tmps[25]? = some (m1_) := by rw [ha]; exact putSel_on (e := (1, 25, m1_)) 1 rfl rfl (hon 1 (by kernel_rfl)) rfl
      rw [Q_X1_ (hon 1 (by kernel_rfl))] at e25
      have e26 : a.tmps[26]? = some (v244) := by rw [ha]; exact putSel_on (e := (2, 26, v244)) 2 rfl rfl (hon 2 (by kernel_rfl)) rfl
      have e27 : a.tmps[27]? = some (v247) := by rw [ha]; exact putSel_on (e := (3, 27, v247)) 3 rfl rfl (hon 3 (by kernel_rfl)) rfl
      replace ha := Aside0.mk ha
      have BK226 := Aside0.mk Q_BK226
      have HB := Aside0.mk Q_HB
      have HO242 := Aside0.mk (Q_HO242 (hon 1 (by kernel_rfl)))
      have HO245 := Aside0.mk (Q_HO245 (hon 2 (by kernel_rfl)))
      have HO248 := Aside0.mk (Q_HO248 (hon 3 (by kernel_rfl)))
      obtain ⟨Ao28, co28, eo28⟩ := Kd.R_slice HO242.out
      (first | subst eo28 | (injection eo28 with f1_ f2_ f3_; have f4_ := f1_.symm; have f5_ := f3_.symm; clear f1_ f2_ f3_; subst f4_; subst f5_))
      obtain ⟨Ao29, co29, eo29⟩ := Kd.R_slice HO245.out
      (first | subst eo29 | (injection eo29 with f1_ f2_ f3_; have f4_ := f1_.symm; have f5_ := f3_.symm; clear f1_ f2_ f3_; subst f4_; subst f5_))
      obtain ⟨Ao30, co30, eo30⟩ := Kd.R_slice HO248.out
      (first | subst eo30 | (injection eo30 with f1_ f2_ f3_; have f4_ := f1_.symm; have f5_ := f3_.symm; clear f1_ f2_ f3_; subst f4_; subst f5_))
      refine goes_ Try.func14 (by kernel_rfl) rfl #[.agg #[.int .i64 1, .int .i64 2], .agg #[.int .i64 t239, .slice Ao28 t240.length co28], .slice Ao29 y243.length co29, .slice Ao30 y246.length co30] (by rfl) rfl rfl (by first | (simp only [List.map_toArray, List.map_cons, List.map_nil, Act.eval, Array.getD_eq_getD_getElem?, Option.getD_some, e24, e25, e26, e27]; done) | (simp only [List.map_toArray, List.map_cons, List.map_nil, Act.eval, Array.getD_eq_getD_getElem?, Option.getD_some, e24, e25, e26, e27]; rfl)) ?_
      with_reducible refine (adjudicate_Agree.calls kj0 1 2 t239 _ _ t240 _ _ y243 _ _ y246 t249 t250 _ ?side1 ?side2 ?side3 ?side4 ?side5 ?side6 A20.out).mono ?_
      (case side1 => exact Ck (Kd.R_reads' HO242.out).2.2)
      (case side2 => exact (Kd.R_reads' HO242.out).2.1)
      (case side3 => exact Ck (Kd.R_reads' HO245.out).2.2)
      (case side4 => exact (Kd.R_reads' HO245.out).2.1)
      (case side5 => exact Ck (Kd.R_reads' HO248.out).2.2)
      (case side6 => exact (Kd.R_reads' HO248.out).2.1)
      rintro e w31 ⟨rfl, hb⟩
      refine ⟨_, rfl, ?_⟩
      have n0_ := Aside0.mk (Kd.R_below (Rk HO242.out) hb)
      have n1_ := Aside0.mk (Kd.R_below (Rk HO245.out) hb)
      have n2_ := Aside0.mk (Kd.R_below (Rk HO248.out) hb)
      have n3_ := Aside0.mk (blk_below (g := gb226) (o := .cells #[.int .i64 1, .int .i64 2] 23 (0, 0)) (Bk BK226.out) hb)
      have n4_ := Aside0.mk (below_step (Bw HB.out) hb)
      clear HO242
      clear HO245
      clear HO248
      clear BK226
      clear HB
      have HO242 := n0_
      have HO245 := n1_
      have HO248 := n2_
      have BK226 := n3_
      have HB := n4_
      clear n0_ n1_ n2_ n3_ n4_
      (try clear hb)
      (try clear hb2)
      (try clear hk)
      (try clear hi)
      refine hK.out _ _ ⟨.slice Ao28 t240.length co28, .slice Ao29 y243.length co29, .slice Ao30 y246.length co30, m1_, (by rw [ha.out]; exact putSel_upk 4 hb_ rfl rfl rfl), (Bk BK226.out), (Bw HB.out), fun _ => (Rk HO242.out), fun _ => (Rk HO245.out), fun _ => (Rk HO248.out), Q_X1_⟩
     refine steps_cons ?_ ?_
     ·
      rintro b a w' ⟨v241, v244, v247, m1_, ha, Q_BK226, Q_HB, Q_HO242, Q_HO245, Q_HO248, Q_X1_⟩ hb_ hon hoff
      refine ⟨_, rfl, fun K hK => ?_⟩
      have e28 : a.tmps[28]? = some (.tuple #[.bool t249, .int .i64 t250]) := by rw [ha]; exact putSel_on (e := (4, 28, .tuple #[.bool t249, .int .i64 t250])) 4 rfl rfl (hon 4 (by kernel_rfl)) rfl
      replace ha := Aside0.mk ha
      have BK226 := Aside0.mk Q_BK226
      have HB := Aside0.mk Q_HB
      have HO242 := Aside0.mk (Q_HO242 (hon 1 (by kernel_rfl)))
      have HO245 := Aside0.mk (Q_HO245 (hon 2 (by kernel_rfl)))
      have HO248 := Aside0.mk (Q_HO248 (hon 3 (by kernel_rfl)))
      refine value_ (w1 := w') (v := .tuple #[.bool t249, .int .i64 t250]) (by rfl) rfl ?_ ?_
      ·
       go_simp
       (try simp only [i64_w])
       try rfl
      refine hK.out _ _ ⟨v241, v244, v247, m1_, (by rw [ha.out]; exact putSel_upk 5 hb_ rfl rfl rfl), Q_BK226, Q_HB, Q_HO242, Q_HO245, Q_HO248, Q_X1_⟩
     refine steps_cons ?_ ?_
     ·
      rintro b a w' ⟨v241, v244, v247, m1_, ha, Q_BK226, Q_HB, Q_HO242, Q_HO245, Q_HO248, Q_X1_⟩ hb_ hon hoff
      refine ⟨_, rfl, fun K hK => ?_⟩
      have e23 : a.tmps[23]? = some (.tuple #[.bool t249, .int .i64 t250]) := by rw [ha]; exact putSel_on (e := (5, 23, .tuple #[.bool t249, .int .i64 t250])) 5 rfl rfl (hon 5 (by kernel_rfl)) rfl
      replace ha := Aside0.mk ha
      have BK226 := Aside0.mk Q_BK226
      have HB := Aside0.mk Q_HB
      have HO242 := Aside0.mk (Q_HO242 (hon 1 (by kernel_rfl)))
      have HO245 := Aside0.mk (Q_HO245 (hon 2 (by kernel_rfl)))
      have HO248 := Aside0.mk (Q_HO248 (hon 3 (by kernel_rfl)))
      refine value_ (w1 := w') (v := .bool t249) (by rfl) rfl ?_ ?_
      ·
       go_simp
       (try simp only [i64_w])
       try rfl
      refine hK.out _ _ ⟨v241, v244, v247, m1_, (by rw [ha.out]; exact putSel_upk 6 hb_ rfl rfl rfl), Q_BK226, Q_HB, Q_HO242, Q_HO245, Q_HO248, Q_X1_⟩
     refine steps_cons ?_ ?_
     ·
      rintro b a w' ⟨v241, v244, v247, m1_, ha, Q_BK226, Q_HB, Q_HO242, Q_HO245, Q_HO248, Q_X1_⟩ hb_ hon hoff
      refine ⟨_, rfl, fun K hK => ?_⟩
      have e23 : a.tmps[23]? = some (.tuple #[.bool t249, .int .i64 t250]) := by rw [ha]; exact putSel_on (e := (5, 23, .tuple #[.bool t249, .int .i64 t250])) 5 rfl rfl (hon 5 (by kernel_rfl)) rfl
      replace ha := Aside0.mk ha
      have BK226 := Aside0.mk Q_BK226
      have HB := Aside0.mk Q_HB
      have HO242 := Aside0.mk (Q_HO242 (hon 1 (by kernel_rfl)))
      have HO245 := Aside0.mk (Q_HO245 (hon 2 (by kernel_rfl)))
      have HO248 := Aside0.mk (Q_HO248 (hon 3 (by kernel_rfl)))
      refine value_ (w1 := w') (v := .int .i64 t250) (by rfl) rfl ?_ ?_
      ·
       go_simp
       (try simp only [i64_w])
       try rfl
      refine hK.out _ _ ⟨v241, v244, v247, m1_, (by rw [ha.out]; exact putSel_upk 7 hb_ rfl rfl rfl), Q_BK226, Q_HB, Q_HO242, Q_HO245, Q_HO248, Q_X1_⟩
     refine steps_cons ?_ ?_
     ·
      rintro b a w' ⟨v241, v244, v247, m1_, ha, Q_BK226, Q_HB, Q_HO242, Q_HO245, Q_HO248, Q_X1_⟩ hb_ hon hoff
      refine ⟨_, rfl, fun K hK => ?_⟩
      have e29 : a.tmps[29]? = some (.bool t249) := by rw [ha]; exact putSel_on (e := (6, 29, .bool t249)) 6 rfl rfl (hon 6 (by kernel_rfl)) rfl
      replace ha := Aside0.mk ha
      have BK226 := Aside0.mk Q_BK226
      have HB := Aside0.mk Q_HB
      have HO242 := Aside0.mk (Q_HO242 (hon 1 (by kernel_rfl)))
      have HO245 := Aside0.mk (Q_HO245 (hon 2 (by kernel_rfl)))
      have HO248 := Aside0.mk (Q_HO248 (hon 3 (by kernel_rfl)))
      refine value_ (w1 := w') (v := .bool t249) (by rfl) rfl ?_ ?_
      ·
       go_simp
       (try simp only [i64_w])
       try rfl
      refine hK.out _ _ ⟨v241, v244, v247, m1_, (by rw [ha.out]; exact putSel_upk 8 hb_ rfl rfl rfl), Q_BK226, Q_HB, Q_HO242, Q_HO245, Q_HO248, Q_X1_⟩
     refine steps_cons ?_ ?_
     ·
      rintro b a w' ⟨v241, v244, v247, m1_, ha, Q_BK226, Q_HB, Q_HO242, Q_HO245, Q_HO248, Q_X1_⟩ hb_ hon hoff
      refine ⟨_, rfl, fun K hK => ?_⟩
      have e30 : a.tmps[30]? = some (.int .i64 t250) := by rw [ha]; exact putSel_on (e := (7, 30, .int .i64 t250)) 7 rfl rfl (hon 7 (by kernel_rfl)) rfl
      replace ha := Aside0.mk ha
      have BK226 := Aside0.mk Q_BK226
      have HB := Aside0.mk Q_HB
      have HO242 := Aside0.mk (Q_HO242 (hon 1 (by kernel_rfl)))
      have HO245 := Aside0.mk (Q_HO245 (hon 2 (by kernel_rfl)))
      have HO248 := Aside0.mk (Q_HO248 (hon 3 (by kernel_rfl)))
      refine value_ (w1 := w') (v := .int .i64 t250) (by rfl) rfl ?_ ?_
      ·
       go_simp
       (try simp only [i64_w])
       try rfl
      refine hK.out _ _ ⟨v241, v244, v247, m1_, (by rw [ha.out]; exact putSel_upk 9 hb_ rfl rfl rfl), Q_BK226, Q_HB, Q_HO242, Q_HO245, Q_HO248, Q_X1_⟩
     exact steps_nil
    rintro b a w31 hall ⟨v241, v244, v247, m1_, ha, Q_BK226, Q_HB, Q_HO242, Q_HO245, Q_HO248, Q_X1_⟩
    clear BK226 HB
    have hb0_ := hall 0 (by kernel_rfl)
    have hb1_ := hall 1 (by kernel_rfl)
    have hb2_ := hall 2 (by kernel_rfl)
    have hb3_ := hall 3 (by kernel_rfl)
    have hb4_ := hall 4 (by kernel_rfl)
    have hb5_ := hall 5 (by kernel_rfl)
    have hb6_ := hall 6 (by kernel_rfl)
    have hb7_ := hall 7 (by kernel_rfl)
    have hb8_ := hall 8 (by kernel_rfl)
    have hb9_ := hall 9 (by kernel_rfl)
    subst ha
    obtain rfl := Q_X1_ hb1_
    simp only [putSel, hb0_, hb1_, hb2_, hb3_, hb4_, hb5_, hb6_, hb7_, hb8_, hb9_, if_true, Act.put, List.setIfInBounds_toArray, List.set_cons_zero, List.set_cons_succ]
    have BK226 := Aside0.mk Q_BK226
    clear Q_BK226
    have HB := Aside0.mk Q_HB
    clear Q_HB
    have HO242 := Aside0.mk (Q_HO242 hb1_)
    clear Q_HO242
    have HO245 := Aside0.mk (Q_HO245 hb2_)
    clear Q_HO245
    have HO248 := Aside0.mk (Q_HO248 hb3_)
    clear Q_HO248
    clear hall hb0_ hb1_ hb2_ hb3_ hb4_ hb5_ hb6_ hb7_ hb8_ hb9_
    try go_wp2
    go_meet
    case rel => exact ⟨_, (t249), (t250), (by first | rfl | (simp; done) | (simp [*]; done)), (by first | rfl | (simp; done) | (simp [*]; done)), H', ⟨by have := HJ0.out; first | omega | exact Nat.le_refl _⟩, ⟨Bk BK226.out⟩, ⟨Bw HB.out⟩⟩
   case rest =>
    clear HC18
    (try clear c1); (try clear c2); (try clear p2); (try clear c8); (try clear c14); (try clear c24); (try clear hcz3_0); (try clear hcz3_1); (try clear hfz3_0); (try clear hfz3_1); (try clear p2)
    obtain ⟨kq, x4_17, x5_17, rfl, rfl, HA, HJ17, BK226, HB⟩ := hcut
    cases kq with
    | zero => exact absurd HA.out (by simp [examboardlaw43_awake.j1])
    | succ kj17 =>
     have H := HA.out
     clear HA
     simp only [examboardlaw43_awake.j1] at H
     have HC32 := Aside0.mk H
     clear H
     go_upto_region 4 with (fail)
     go_cut [6, 7] (fun v6 v7 wc => ∃ (kq : Nat) (x6_31 : Int) (x7_31 : Int), v6 = .int .i64 x6_31 ∧ v7 = .int .i64 x7_31 ∧ Aside0 (examboardlaw43_awake.j2 kq x2_0 x3_0 x4_17 x5_17 x6_31 x7_31 1 2 = some r) ∧ Aside0 (kq ≤ kj17) ∧ Aside0 (wc.heap[gb226]? = some (.cells #[.int .i64 1, .int .i64 2] 23 (0, 0))) ∧ Aside0 (Below w.heap.size w wc))
     case first =>
      have H := HC32.out
      clear HC32
      replace H := Option.bind_eq_some_iff.mp H
      obtain ⟨⟨t251, t252⟩, A330, H⟩ := H
      replace H : ((adjudicate_Need.f kj17 1 2 t251 t252 (([(([3] : List Int)), (([1] : List Int))] : List (List Int)))).bind fun bt264 => (examboardlaw43_awake.j2 kj17 x2_0 x3_0 x4_17 x5_17 bt264.1 bt264.2 1 2)) = some r := H
      have A33 := Aside0.mk A330
      clear A330
      obtain ⟨y255, hy255⟩ : ∃ y_ : List Int, y_ = (([3] : List Int)) := ⟨_, rfl⟩
      replace H : ((adjudicate_Need.f kj17 1 2 t251 t252 (([y255, (([1] : List Int))] : List (List Int)))).bind fun bt264 => (examboardlaw43_awake.j2 kj17 x2_0 x3_0 x4_17 x5_17 bt264.1 bt264.2 1 2)) = some r := by first | (rw [hy255]; with_reducible exact H) | (have H2_ := (Option.bind_some _ _).symm.trans H; rw [hy255]; with_reducible exact H2_) | (have H2_ := (Option.bind_some _ _).symm.trans H; with_reducible exact H2_) | with_reducible exact H | (rw [hy255]; exact H) | exact H
      have Ny255 := Aside0.mk hy255
      clear hy255
      obtain ⟨y258, hy258⟩ : ∃ y_ : List Int, y_ = (([1] : List Int)) := ⟨_, rfl⟩
      replace H : ((adjudicate_Need.f kj17 1 2 t251 t252 (([y255, y258] : List (List Int)))).bind fun bt264 => (examboardlaw43_awake.j2 kj17 x2_0 x3_0 x4_17 x5_17 bt264.1 bt264.2 1 2)) = some r := by first | (rw [hy258]; with_reducible exact H) | (have H2_ := (Option.bind_some _ _).symm.trans H; rw [hy258]; with_reducible exact H2_) | (have H2_ := (Option.bind_some _ _).symm.trans H; with_reducible exact H2_) | with_reducible exact H | (rw [hy258]; exact H) | exact H
      have Ny258 := Aside0.mk hy258
      clear hy258
      obtain ⟨y261, hy261⟩ : ∃ y_ : List (List Int), y_ = (([y255, y258] : List (List Int))) := ⟨_, rfl⟩
      replace H : ((adjudicate_Need.f kj17 1 2 t251 t252 y261).bind fun bt264 => (examboardlaw43_awake.j2 kj17 x2_0 x3_0 x4_17 x5_17 bt264.1 bt264.2 1 2)) = some r := by first | (rw [hy261]; with_reducible exact H) | (have H2_ := (Option.bind_some _ _).symm.trans H; rw [hy261]; with_reducible exact H2_) | (have H2_ := (Option.bind_some _ _).symm.trans H; with_reducible exact H2_) | with_reducible exact H | (rw [hy261]; exact H) | exact H
      have Ny261 := Aside0.mk hy261
      clear hy261
      replace H := Option.bind_eq_some_iff.mp H
      obtain ⟨⟨t264, t265⟩, A340, H⟩ := H
      replace H : (examboardlaw43_awake.j2 kj17 x2_0 x3_0 x4_17 x5_17 t264 t265 1 2) = some r := H
      have A34 := Aside0.mk A340
      clear A340
      have H' := Aside0.mk H
      clear H
      try go_wp2
      have n0_ := Aside0.mk (blk_drew BK226.out)
      have n1_ := Aside0.mk (below_drew1 HB.out)
      clear BK226
      clear HB
      have BK226 := n0_
      have HB := n1_
      clear n0_ n1_
      refine start_ (n := 11) (S := fun w' => True) (ds := []) #[Z,Z,Z,Z,Z,Z,Z,Z,Z,Z,Z] (by kernel_rfl) rfl rfl trivial (fun hHeld => ?_); refine with_tabW examboardlaw43_awake.tab4 examboardlaw43_awake.bits4 (fun HT_ HW_ => ?_)
      generalize wc.drew = w35 at BK226 HB hHeld ⊢
      refine inv_at [0, 1, 2, 3, 4, 5, 6, 7, 8, 9, 10] (fun a0_ b a w' => ∃ (v253 : Value) (v256 : Value) (v259 : Value) (v262 : Value) (m1_ : Value), a = putSel a0_ b [(0, 32, .agg #[.int .i64 1, .int .i64 2]), (1, 33, m1_), (2, 34, v256), (3, 35, v259), (4, 36, v262), (5, 37, .tuple #[.int .i64 t264, .int .i64 t265]), (6, 31, .tuple #[.int .i64 t264, .int .i64 t265]), (7, 38, .int .i64 t264), (8, 39, .int .i64 t265), (9, 6, .int .i64 t264), (10, 7, .int .i64 t265)] ∧ (w'.heap[gb226]? = some (.cells #[.int .i64 1, .int .i64 2] 23 (0, 0))) ∧ (Below w.heap.size w w') ∧ (b 1 = true → Kd.R k59 59 w' w.heap.size (fun _ => True) v253 t252) ∧ (b 2 = true → b 4 = false → Kd.R (Kd.int .i64) 3 w' w.heap.size (fun _ => True) v256 y255) ∧ (b 3 = true → b 4 = false → Kd.R (Kd.int .i64) 3 w' w.heap.size (fun _ => True) v259 y258) ∧ (b 4 = true → Kd.N (Kd.slice 3 (Kd.int .i64)) 29 w' w.heap.size (fun k_ => k_ ≠ gb226) v262 y261) ∧ (b 1 = true → (m1_ : Value) = .agg #[.int .i64 t251, v253])) HT_.out HW_.out (by kernel_rfl) (by kernel_rfl) ?_ ?_ ?_
      ·
       exact ⟨.bool false, .bool false, .bool false, .bool false, .bool false, by simp only [putSel, Bool.false_eq_true, if_false], BK226.out, HB.out, fun h_ => absurd h_ (by decide), fun h_ => absurd h_ (by decide), fun h_ => absurd h_ (by decide), fun h_ => absurd h_ (by decide), fun h_ => absurd h_ (by decide)⟩
      ·
       skip
       clear BK226 HB
       refine steps_cons ?_ ?_
       ·
        rintro b a w' ⟨v253, v256, v259, v262, m1_, ha, Q_BK226, Q_HB, Q_HO254, Q_HO257, Q_HO260, Q_HO263, Q_X1_⟩ hb_ hon hoff
        refine ⟨_, rfl, fun K hK => ?_⟩
        have e1 : a.tmps[1]? = some (.pointer (some ⟨gb226, 0, none⟩)) := by rw [ha]; exact (putSel_off rfl).trans rfl
        replace ha := Aside0.mk ha
        have BK226 := Aside0.mk Q_BK226
        have HB := Aside0.mk Q_HB
        have hc0_ : w'.cell? ⟨gb226, 0, none⟩ = some (.int .i64 1) := (blk_cell BK226.out 0).trans rfl
        have hc1_ : w'.cell? ⟨gb226, 1, none⟩ = some (.int .i64 2) := (blk_cell BK226.out 1).trans rfl
        refine value_ (w1 := w') (v := .agg #[.int .i64 1, .int .i64 2]) (by rfl) rfl ?_ ?_
        ·
         go_simp
         (try simp only [i64_w])
         try rfl
        refine hK.out _ _ ⟨v253, v256, v259, v262, m1_, (by rw [ha.out]; exact putSel_upk 0 hb_ rfl rfl rfl), Q_BK226, Q_HB, Q_HO254, Q_HO257, Q_HO260, Q_HO263, Q_X1_⟩
       refine steps_cons ?_ ?_
       ·
        rintro b a w' ⟨v253, v256, v259, v262, m1_, ha, Q_BK226, Q_HB, Q_HO254, Q_HO257, Q_HO260, Q_HO263, Q_X1_⟩ hb_ hon hoff
        refine ⟨_, rfl, fun K hK => ?_⟩
        replace ha := Aside0.mk ha
        have BK226 := Aside0.mk Q_BK226
        have HB := Aside0.mk Q_HB
        refine goes_ Try.func24 (by kernel_rfl) rfl #[] (by rfl) rfl rfl (by first | (simp only [List.map_toArray, List.map_cons, List.map_nil, Act.eval, Array.getD_eq_getD_getElem?, Option.getD_some]; done) | (simp only [List.map_toArray, List.map_cons, List.map_nil, Act.eval, Array.getD_eq_getD_getElem?, Option.getD_some]; rfl)) ?_
        with_reducible refine (examboardlaw43_sample.calls  t251 t252 _ A33.out).mono ?_
        rintro e w36 ⟨v253, rfl, ho0, hb⟩
        refine ⟨_, rfl, ?_⟩
        have n0_ := Aside0.mk (Kd.R_lower ho0 (below_size (Bw HB.out)))
        have n1_ := Aside0.mk (blk_below (g := gb226) (o := .cells #[.int .i64 1, .int .i64 2] 23 (0, 0)) (Bk BK226.out) hb)
        have n2_ := Aside0.mk (below_step (Bw HB.out) hb)
        have z_HO257 := fun (h0_ : b 2 = true) (h1_ : b 4 = false) => (show Kd.R (Kd.int .i64) 3 w36 w.heap.size (fun _ => True) v256 y255 from by first | exact (Kd.R_below (Rk (Q_HO257 h0_ h1_)) hb) | exact Kd.R_mono (Kd.R_below (Rk (Q_HO257 h0_ h1_)) hb) (fun _ h_ => by first | trivial | exact h_ | exact h_.1))
        have z_HO260 := fun (h0_ : b 3 = true) (h1_ : b 4 = false) => (show Kd.R (Kd.int .i64) 3 w36 w.heap.size (fun _ => True) v259 y258 from by first | exact (Kd.R_below (Rk (Q_HO260 h0_ h1_)) hb) | exact Kd.R_mono (Kd.R_below (Rk (Q_HO260 h0_ h1_)) hb) (fun _ h_ => by first | trivial | exact h_ | exact h_.1))
        have z_HO263 := fun (h0_ : b 4 = true) => (show Kd.N (Kd.slice 3 (Kd.int .i64)) 29 w36 w.heap.size (fun k_ => k_ ≠ gb226) v262 y261 from by first | exact (Kd.N_elder' (by (with_reducible repeat (first | apply Kd.N_alloc | apply Kd.N_drewN | apply Kd.N_drew)); exact (Q_HO263 h0_)) (Kd.R_base ho0) hb) | exact Kd.N_mono (Kd.N_elder' (by (with_reducible repeat (first | apply Kd.N_alloc | apply Kd.N_drewN | apply Kd.N_drew)); exact (Q_HO263 h0_)) (Kd.R_base ho0) hb) (fun _ h_ => by first | trivial | exact h_ | exact h_.1))
        clear BK226
        clear HB
        have HO254 := n0_
        have BK226 := n1_
        have HB := n2_
        clear n0_ n1_ n2_
        (try clear hb)
        (try clear hb2)
        (try clear hk)
        (try clear hi)
        (try clear ho0)
        refine hK.out _ _ ⟨v253, v256, v259, v262, (.agg #[.int .i64 t251, v253]), (by rw [ha.out]; exact putSel_upk 1 hb_ rfl rfl rfl), (Bk BK226.out), (Bw HB.out), fun _ => (Rk HO254.out), z_HO257, z_HO260, z_HO263, fun _ => rfl⟩
       refine steps_cons ?_ ?_
       ·
        rintro b a w' ⟨v253, v256, v259, v262, m1_, ha, Q_BK226, Q_HB, Q_HO254, Q_HO257, Q_HO260, Q_HO263, Q_X1_⟩ hb_ hon hoff
        refine ⟨_, rfl, fun K hK => ?_⟩
        replace ha := Aside0.mk ha
        have BK226 := Aside0.mk Q_BK226
        have HB := Aside0.mk Q_HB
        refine Kd.R_lit_step (Kd.int .i64) _ 3 ?hg (N := 34) ?hd (xs := ([3] : List Int)) (inner := [.int .i64 3]) (ok := fun _ => True) (okp := fun _ => True) ?hr ?hp (fun _ hk => hk) trivial (Below.refl _ _) (Nat.le_refl _) (by simp) ?_; (case hd => rfl); (case hg => rfl); (case hr => first | (go_simp; done) | (go_simp; rfl)); (case hp => exact (Reps.one (show Kd.M (Kd.int .i64) _ _ _ 3 [.int .i64 3] from rfl) (Reps.none _ _)))
        intro v256 w36 ho37 hb hg_ hnew_
        clear hg_ hnew_
        (first | rw [← Ny255.out] at ho37 | (simp only [Int.reduceToNat] at ho37; rw [← Ny255.out] at ho37))
        have n0_ := Aside0.mk (Kd.R_lower ho37 (below_size (Bw HB.out)))
        have n1_ := Aside0.mk (blk_below (g := gb226) (o := .cells #[.int .i64 1, .int .i64 2] 23 (0, 0)) (Bk BK226.out) hb)
        have n2_ := Aside0.mk (below_step (Bw HB.out) hb)
        have z_HO254 := fun (h0_ : b 1 = true) => (show Kd.R k59 59 w36 w.heap.size (fun _ => True) v253 t252 from by first | exact (Kd.R_below (Rk (Q_HO254 h0_)) hb) | exact Kd.R_mono (Kd.R_below (Rk (Q_HO254 h0_)) hb) (fun _ h_ => by first | trivial | exact h_ | exact h_.1))
        have z_HO260 := fun (h0_ : b 3 = true) (h1_ : b 4 = false) => (show Kd.R (Kd.int .i64) 3 w36 w.heap.size (fun _ => True) v259 y258 from by first | exact (Kd.R_elder' (Rk (Q_HO260 h0_ h1_)) (Kd.R_base ho37) hb) | exact Kd.R_mono (Kd.R_elder' (Rk (Q_HO260 h0_ h1_)) (Kd.R_base ho37) hb) (fun _ h_ => by first | trivial | exact h_ | exact h_.1))
        clear BK226
        clear HB
        have HO257 := n0_
        have BK226 := n1_
        have HB := n2_
        clear n0_ n1_ n2_
        clear hb ho37
        refine hK.out _ _ ⟨v253, v256, v259, v262, m1_, (by rw [ha.out]; exact putSel_upk 2 hb_ rfl rfl rfl), (Bk BK226.out), (Bw HB.out), z_HO254, fun _ _ => (Rk HO257.out), z_HO260, fun h0_ => absurd ((hoff 4 (by kernel_rfl)).symm.trans h0_) (by decide), Q_X1_⟩
       refine steps_cons ?_ ?_
       ·
        rintro b a w' ⟨v253, v256, v259, v262, m1_, ha, Q_BK226, Q_HB, Q_HO254, Q_HO257, Q_HO260, Q_HO263, Q_X1_⟩ hb_ hon hoff
        refine ⟨_, rfl, fun K hK => ?_⟩
        replace ha := Aside0.mk ha
        have BK226 := Aside0.mk Q_BK226
        have HB := Aside0.mk Q_HB
        refine Kd.R_lit_step (Kd.int .i64) _ 3 ?hg (N := 35) ?hd (xs := ([1] : List Int)) (inner := [.int .i64 1]) (ok := fun _ => True) (okp := fun _ => True) ?hr ?hp (fun _ hk => hk) trivial (Below.refl _ _) (Nat.le_refl _) (by simp) ?_; (case hd => rfl); (case hg => rfl); (case hr => first | (go_simp; done) | (go_simp; rfl)); (case hp => exact (Reps.one (show Kd.M (Kd.int .i64) _ _ _ 1 [.int .i64 1] from rfl) (Reps.none _ _)))
        intro v259 w36 ho37 hb hg_ hnew_
        clear hg_ hnew_
        (first | rw [← Ny258.out] at ho37 | (simp only [Int.reduceToNat] at ho37; rw [← Ny258.out] at ho37))
        have n0_ := Aside0.mk (Kd.R_lower ho37 (below_size (Bw HB.out)))
        have n1_ := Aside0.mk (blk_below (g := gb226) (o := .cells #[.int .i64 1, .int .i64 2] 23 (0, 0)) (Bk BK226.out) hb)
        have n2_ := Aside0.mk (below_step (Bw HB.out) hb)
        have z_HO254 := fun (h0_ : b 1 = true) => (show Kd.R k59 59 w36 w.heap.size (fun _ => True) v253 t252 from by first | exact (Kd.R_below (Rk (Q_HO254 h0_)) hb) | exact Kd.R_mono (Kd.R_below (Rk (Q_HO254 h0_)) hb) (fun _ h_ => by first | trivial | exact h_ | exact h_.1))
        have z_HO257 := fun (h0_ : b 2 = true) (h1_ : b 4 = false) => (show Kd.R (Kd.int .i64) 3 w36 w.heap.size (fun _ => True) v256 y255 from by first | exact (Kd.R_elder' (Rk (Q_HO257 h0_ h1_)) (Kd.R_base ho37) hb) | exact Kd.R_mono (Kd.R_elder' (Rk (Q_HO257 h0_ h1_)) (Kd.R_base ho37) hb) (fun _ h_ => by first | trivial | exact h_ | exact h_.1))
        clear BK226
        clear HB
        have HO260 := n0_
        have BK226 := n1_
        have HB := n2_
        clear n0_ n1_ n2_
        clear hb ho37
        refine hK.out _ _ ⟨v253, v256, v259, v262, m1_, (by rw [ha.out]; exact putSel_upk 3 hb_ rfl rfl rfl), (Bk BK226.out), (Bw HB.out), z_HO254, z_HO257, fun _ _ => (Rk HO260.out), fun h0_ => absurd ((hoff 4 (by kernel_rfl)).symm.trans h0_) (by decide), Q_X1_⟩
       refine steps_cons ?_ ?_
       ·
        rintro b a w' ⟨v253, v256, v259, v262, m1_, ha, Q_BK226, Q_HB, Q_HO254, Q_HO257, Q_HO260, Q_HO263, Q_X1_⟩ hb_ hon hoff
        refine ⟨_, rfl, fun K hK => ?_⟩
        have e34 : a.tmps[34]? = some (v256) := by rw [ha]; exact putSel_on (e := (2, 34, v256)) 2 rfl rfl (hon 2 (by kernel_rfl)) rfl
        have e35 : a.tmps[35]? = some (v259) := by rw [ha]; exact putSel_on (e := (3, 35, v259)) 3 rfl rfl (hon 3 (by kernel_rfl)) rfl
        replace ha := Aside0.mk ha
        have BK226 := Aside0.mk Q_BK226
        have HB := Aside0.mk Q_HB
        have HO257 := Aside0.mk (Q_HO257 (hon 2 (by kernel_rfl)) hb_)
        have HO260 := Aside0.mk (Q_HO260 (hon 3 (by kernel_rfl)) hb_)
        obtain ⟨Ao41, co41, eo41⟩ := Kd.R_slice HO257.out
        (first | subst eo41 | (injection eo41 with f1_ f2_ f3_; have f4_ := f1_.symm; have f5_ := f3_.symm; clear f1_ f2_ f3_; subst f4_; subst f5_))
        obtain ⟨Ao42, co42, eo42⟩ := Kd.R_slice HO260.out
        (first | subst eo42 | (injection eo42 with f1_ f2_ f3_; have f4_ := f1_.symm; have f5_ := f3_.symm; clear f1_ f2_ f3_; subst f4_; subst f5_))
        refine Kd.N_lit_step (Kd.slice 3 (Kd.int .i64)) _ 29 ?hg (N' := 36) ?hd (xs := ([y255, y258] : List (List Int))) (inner := [.slice Ao41 y255.length co41, .slice Ao42 y258.length co42]) (ok := (fun k_ => k_ ≠ gb226)) (okp := (fun k_ => k_ ≠ gb226)) ?hr ?hp (fun _ hk => hk) ((show ∀ k_, w'.heap.size ≤ k_ → (fun k_ => k_ ≠ gb226) k_ from fun k_ hk => Kd.freshB (g := gb226) (o := .cells #[.int .i64 1, .int .i64 2] 23 (0, 0)) (Bk BK226.out) k_ hk) _ (Nat.le_refl _)) (Below.refl _ _) (Nat.le_refl _) (by simp) ?_; (case hd => rfl); (case hg => rfl); (case hr => first | (go_simp; done) | (go_simp; rfl)); (case hp => exact (Reps.one (show Kd.FK (Kd.slice 3 (Kd.int .i64)) _ _ y255 [.slice Ao41 y255.length co41] from (Kd.FK_slice_mk (Kd.R_reads' (Kd.R_mono (ok' := (fun k_ => k_ ≠ gb226)) (Kd.R_types (HO257.out) BK226.out (by decide)) (fun k_ hk => hk.2))).2.1 (Kd.R_F (Kd.R_mono (ok' := (fun k_ => k_ ≠ gb226)) (Kd.R_types (HO257.out) BK226.out (by decide)) (fun k_ hk => hk.2))))) (Reps.one (show Kd.FK (Kd.slice 3 (Kd.int .i64)) _ _ y258 [.slice Ao42 y258.length co42] from (Kd.FK_slice_mk (Kd.R_reads' (Kd.R_mono (ok' := (fun k_ => k_ ≠ gb226)) (Kd.R_types (HO260.out) BK226.out (by decide)) (fun k_ hk => hk.2))).2.1 (Kd.R_F (Kd.R_mono (ok' := (fun k_ => k_ ≠ gb226)) (Kd.R_types (HO260.out) BK226.out (by decide)) (fun k_ hk => hk.2))))) (Reps.none _ _))))
        intro v262 w43 ho44 hb hg_ hnew_
        clear hg_ hnew_
        (first | rw [← Ny261.out] at ho44 | (simp only [Int.reduceToNat] at ho44; rw [← Ny261.out] at ho44))
        have n0_ := Aside0.mk (Kd.N_lower ho44 (below_size (Bw HB.out)))
        have n1_ := Aside0.mk (blk_below (g := gb226) (o := .cells #[.int .i64 1, .int .i64 2] 23 (0, 0)) (Bk BK226.out) hb)
        have n2_ := Aside0.mk (below_step (Bw HB.out) hb)
        have z_HO254 := fun (h0_ : b 1 = true) => (show Kd.R k59 59 w43 w.heap.size (fun _ => True) v253 t252 from by first | exact (Kd.R_below (Rk (Q_HO254 h0_)) hb) | exact Kd.R_mono (Kd.R_below (Rk (Q_HO254 h0_)) hb) (fun _ h_ => by first | trivial | exact h_ | exact h_.1))
        clear BK226
        clear HB
        clear HO257
        clear HO260
        have HO263 := n0_
        have BK226 := n1_
        have HB := n2_
        clear n0_ n1_ n2_
        clear hb ho44
        refine hK.out _ _ ⟨v253, .slice Ao41 y255.length co41, .slice Ao42 y258.length co42, v262, m1_, (by rw [ha.out]; exact putSel_upk 4 hb_ rfl rfl rfl), (Bk BK226.out), (Bw HB.out), z_HO254, fun _ h1_ => absurd ((up_self b 4).symm.trans h1_) (by decide), fun _ h1_ => absurd ((up_self b 4).symm.trans h1_) (by decide), fun _ => (by (with_reducible repeat (first | apply Kd.N_alloc | apply Kd.N_drewN | apply Kd.N_drew)); exact HO263.out), Q_X1_⟩
       refine steps_cons ?_ ?_
       ·
        rintro b a w' ⟨v253, v256, v259, v262, m1_, ha, Q_BK226, Q_HB, Q_HO254, Q_HO257, Q_HO260, Q_HO263, Q_X1_⟩ hb_ hon hoff
        refine ⟨_, rfl, fun K hK => ?_⟩
        have e32 : a.tmps[32]? = some (.agg #[.int .i64 1, .int .i64 2]) := by rw [ha]; exact putSel_on (e := (0, 32, .agg #[.int .i64 1, .int .i64 2])) 0 rfl rfl (hon 0 (by kernel_rfl)) rfl
        have e33 : a.tmps[33]? = some (m1_) := by rw [ha]; exact putSel_on (e := (1, 33, m1_)) 1 rfl rfl (hon 1 (by kernel_rfl)) rfl
        rw [Q_X1_ (hon 1 (by kernel_rfl))] at e33
        have e36 : a.tmps[36]? = some (v262) := by rw [ha]; exact putSel_on (e := (4, 36, v262)) 4 rfl rfl (hon 4 (by kernel_rfl)) rfl
        replace ha := Aside0.mk ha
        have BK226 := Aside0.mk Q_BK226
        have HB := Aside0.mk Q_HB
        have HO254 := Aside0.mk (Q_HO254 (hon 1 (by kernel_rfl)))
        have HO263 := Aside0.mk (Q_HO263 (hon 4 (by kernel_rfl)))
        obtain ⟨Ao46, co46, eo46⟩ := Kd.R_slice HO254.out
        (first | subst eo46 | (injection eo46 with f1_ f2_ f3_; have f4_ := f1_.symm; have f5_ := f3_.symm; clear f1_ f2_ f3_; subst f4_; subst f5_))
        obtain ⟨Ao47, co47, eo47⟩ := Kd.N_slice HO263.out
        (first | subst eo47 | (injection eo47 with f1_ f2_ f3_; have f4_ := f1_.symm; have f5_ := f3_.symm; clear f1_ f2_ f3_; subst f4_; subst f5_))
        refine goes_ Try.func13 (by kernel_rfl) rfl #[.agg #[.int .i64 1, .int .i64 2], .agg #[.int .i64 t251, .slice Ao46 t252.length co46], .slice Ao47 y261.length co47] (by rfl) rfl rfl (by first | (simp only [List.map_toArray, List.map_cons, List.map_nil, Act.eval, Array.getD_eq_getD_getElem?, Option.getD_some, e32, e33, e36]; done) | (simp only [List.map_toArray, List.map_cons, List.map_nil, Act.eval, Array.getD_eq_getD_getElem?, Option.getD_some, e32, e33, e36]; rfl)) ?_
        with_reducible refine (adjudicate_Need.calls kj17 1 2 t251 _ _ t252 _ _ y261 t264 t265 _ ?side1 ?side2 ?side3 ?side4 A34.out).mono ?_
        (case side1 => exact Ck (Kd.R_reads' HO254.out).2.2)
        (case side2 => exact (Kd.R_reads' HO254.out).2.1)
        (case side3 => exact Ck (Kd.N_reads' HO263.out).2.2)
        (case side4 => exact (Kd.N_reads' HO263.out).2.1)
        rintro e w48 ⟨rfl, hb⟩
        refine ⟨_, rfl, ?_⟩
        have n0_ := Aside0.mk (Kd.R_below (Rk HO254.out) hb)
        have n1_ := Aside0.mk (Kd.N_below (by (with_reducible repeat (first | apply Kd.N_alloc | apply Kd.N_drewN | apply Kd.N_drew)); exact HO263.out) hb)
        have n2_ := Aside0.mk (blk_below (g := gb226) (o := .cells #[.int .i64 1, .int .i64 2] 23 (0, 0)) (Bk BK226.out) hb)
        have n3_ := Aside0.mk (below_step (Bw HB.out) hb)
        clear HO254
        clear HO263
        clear BK226
        clear HB
        have HO254 := n0_
        have HO263 := n1_
        have BK226 := n2_
        have HB := n3_
        clear n0_ n1_ n2_ n3_
        (try clear hb)
        (try clear hb2)
        (try clear hk)
        (try clear hi)
        refine hK.out _ _ ⟨.slice Ao46 t252.length co46, v256, v259, .slice Ao47 y261.length co47, m1_, (by rw [ha.out]; exact putSel_upk 5 hb_ rfl rfl rfl), (Bk BK226.out), (Bw HB.out), fun _ => (Rk HO254.out), fun _ h1_ => absurd ((hon 4 (by kernel_rfl)).symm.trans h1_) (by decide), fun _ h1_ => absurd ((hon 4 (by kernel_rfl)).symm.trans h1_) (by decide), fun _ => (by (with_reducible repeat (first | apply Kd.N_alloc | apply Kd.N_drewN | apply Kd.N_drew)); exact HO263.out), Q_X1_⟩
       refine steps_cons ?_ ?_
       ·
        rintro b a w' ⟨v253, v256, v259, v262, m1_, ha, Q_BK226, Q_HB, Q_HO254, Q_HO257, Q_HO260, Q_HO263, Q_X1_⟩ hb_ hon hoff
        refine ⟨_, rfl, fun K hK => ?_⟩
        have e37 : a.tmps[37]? = some (.tuple #[.int .i64 t264, .int .i64 t265]) := by rw [ha]; exact putSel_on (e := (5, 37, .tuple #[.int .i64 t264, .int .i64 t265])) 5 rfl rfl (hon 5 (by kernel_rfl)) rfl
        replace ha := Aside0.mk ha
        have BK226 := Aside0.mk Q_BK226
        have HB := Aside0.mk Q_HB
        have HO254 := Aside0.mk (Q_HO254 (hon 1 (by kernel_rfl)))
        have HO263 := Aside0.mk (Q_HO263 (hon 4 (by kernel_rfl)))
        refine value_ (w1 := w') (v := .tuple #[.int .i64 t264, .int .i64 t265]) (by rfl) rfl ?_ ?_
        ·
         go_simp
         (try simp only [i64_w])
         try rfl
        refine hK.out _ _ ⟨v253, v256, v259, v262, m1_, (by rw [ha.out]; exact putSel_upk 6 hb_ rfl rfl rfl), Q_BK226, Q_HB, Q_HO254, fun _ h1_ => absurd ((hon 4 (by kernel_rfl)).symm.trans h1_) (by decide), fun _ h1_ => absurd ((hon 4 (by kernel_rfl)).symm.trans h1_) (by decide), Q_HO263, Q_X1_⟩
       refine steps_cons ?_ ?_
       ·
        rintro b a w' ⟨v253, v256, v259, v262, m1_, ha, Q_BK226, Q_HB, Q_HO254, Q_HO257, Q_HO260, Q_HO263, Q_X1_⟩ hb_ hon hoff
        refine ⟨_, rfl, fun K hK => ?_⟩
        have e31 : a.tmps[31]? = some (.tuple #[.int .i64 t264, .int .i64 t265]) := by rw [ha]; exact putSel_on (e := (6, 31, .tuple #[.int .i64 t264, .int .i64 t265])) 6 rfl rfl (hon 6 (by kernel_rfl)) rfl
        replace ha := Aside0.mk ha
        have BK226 := Aside0.mk Q_BK226
        have HB := Aside0.mk Q_HB
        have HO254 := Aside0.mk (Q_HO254 (hon 1 (by kernel_rfl)))
        have HO263 := Aside0.mk (Q_HO263 (hon 4 (by kernel_rfl)))
        refine value_ (w1 := w') (v := .int .i64 t264) (by rfl) rfl ?_ ?_
        ·
         go_simp
         (try simp only [i64_w])
         try rfl
        refine hK.out _ _ ⟨v253, v256, v259, v262, m1_, (by rw [ha.out]; exact putSel_upk 7 hb_ rfl rfl rfl), Q_BK226, Q_HB, Q_HO254, fun _ h1_ => absurd ((hon 4 (by kernel_rfl)).symm.trans h1_) (by decide), fun _ h1_ => absurd ((hon 4 (by kernel_rfl)).symm.trans h1_) (by decide), Q_HO263, Q_X1_⟩
       refine steps_cons ?_ ?_
       ·
        rintro b a w' ⟨v253, v256, v259, v262, m1_, ha, Q_BK226, Q_HB, Q_HO254, Q_HO257, Q_HO260, Q_HO263, Q_X1_⟩ hb_ hon hoff
        refine ⟨_, rfl, fun K hK => ?_⟩
        have e31 : a.tmps[31]? = some (.tuple #[.int .i64 t264, .int .i64 t265]) := by rw [ha]; exact putSel_on (e := (6, 31, .tuple #[.int .i64 t264, .int .i64 t265])) 6 rfl rfl (hon 6 (by kernel_rfl)) rfl
        replace ha := Aside0.mk ha
        have BK226 := Aside0.mk Q_BK226
        have HB := Aside0.mk Q_HB
        have HO254 := Aside0.mk (Q_HO254 (hon 1 (by kernel_rfl)))
        have HO263 := Aside0.mk (Q_HO263 (hon 4 (by kernel_rfl)))
        refine value_ (w1 := w') (v := .int .i64 t265) (by rfl) rfl ?_ ?_
        ·
         go_simp
         (try simp only [i64_w])
         try rfl
        refine hK.out _ _ ⟨v253, v256, v259, v262, m1_, (by rw [ha.out]; exact putSel_upk 8 hb_ rfl rfl rfl), Q_BK226, Q_HB, Q_HO254, fun _ h1_ => absurd ((hon 4 (by kernel_rfl)).symm.trans h1_) (by decide), fun _ h1_ => absurd ((hon 4 (by kernel_rfl)).symm.trans h1_) (by decide), Q_HO263, Q_X1_⟩
       refine steps_cons ?_ ?_
       ·
        rintro b a w' ⟨v253, v256, v259, v262, m1_, ha, Q_BK226, Q_HB, Q_HO254, Q_HO257, Q_HO260, Q_HO263, Q_X1_⟩ hb_ hon hoff
        refine ⟨_, rfl, fun K hK => ?_⟩
        have e38 : a.tmps[38]? = some (.int .i64 t264) := by rw [ha]; exact putSel_on (e := (7, 38, .int .i64 t264)) 7 rfl rfl (hon 7 (by kernel_rfl)) rfl
        replace ha := Aside0.mk ha
        have BK226 := Aside0.mk Q_BK226
        have HB := Aside0.mk Q_HB
        have HO254 := Aside0.mk (Q_HO254 (hon 1 (by kernel_rfl)))
        have HO263 := Aside0.mk (Q_HO263 (hon 4 (by kernel_rfl)))
        refine value_ (w1 := w') (v := .int .i64 t264) (by rfl) rfl ?_ ?_
        ·
         go_simp
         (try simp only [i64_w])
         try rfl
        refine hK.out _ _ ⟨v253, v256, v259, v262, m1_, (by rw [ha.out]; exact putSel_upk 9 hb_ rfl rfl rfl), Q_BK226, Q_HB, Q_HO254, fun _ h1_ => absurd ((hon 4 (by kernel_rfl)).symm.trans h1_) (by decide), fun _ h1_ => absurd ((hon 4 (by kernel_rfl)).symm.trans h1_) (by decide), Q_HO263, Q_X1_⟩
       refine steps_cons ?_ ?_
       ·
        rintro b a w' ⟨v253, v256, v259, v262, m1_, ha, Q_BK226, Q_HB, Q_HO254, Q_HO257, Q_HO260, Q_HO263, Q_X1_⟩ hb_ hon hoff
        refine ⟨_, rfl, fun K hK => ?_⟩
        have e39 : a.tmps[39]? = some (.int .i64 t265) := by rw [ha]; exact putSel_on (e := (8, 39, .int .i64 t265)) 8 rfl rfl (hon 8 (by kernel_rfl)) rfl
        replace ha := Aside0.mk ha
        have BK226 := Aside0.mk Q_BK226
        have HB := Aside0.mk Q_HB
        have HO254 := Aside0.mk (Q_HO254 (hon 1 (by kernel_rfl)))
        have HO263 := Aside0.mk (Q_HO263 (hon 4 (by kernel_rfl)))
        refine value_ (w1 := w') (v := .int .i64 t265) (by rfl) rfl ?_ ?_
        ·
         go_simp
         (try simp only [i64_w])
         try rfl
        refine hK.out _ _ ⟨v253, v256, v259, v262, m1_, (by rw [ha.out]; exact putSel_upk 10 hb_ rfl rfl rfl), Q_BK226, Q_HB, Q_HO254, fun _ h1_ => absurd ((hon 4 (by kernel_rfl)).symm.trans h1_) (by decide), fun _ h1_ => absurd ((hon 4 (by kernel_rfl)).symm.trans h1_) (by decide), Q_HO263, Q_X1_⟩
       exact steps_nil
      rintro b a w48 hall ⟨v253, v256, v259, v262, m1_, ha, Q_BK226, Q_HB, Q_HO254, Q_HO257, Q_HO260, Q_HO263, Q_X1_⟩
      clear BK226 HB
      have hb0_ := hall 0 (by kernel_rfl)
      have hb1_ := hall 1 (by kernel_rfl)
      have hb2_ := hall 2 (by kernel_rfl)
      have hb3_ := hall 3 (by kernel_rfl)
      have hb4_ := hall 4 (by kernel_rfl)
      have hb5_ := hall 5 (by kernel_rfl)
      have hb6_ := hall 6 (by kernel_rfl)
      have hb7_ := hall 7 (by kernel_rfl)
      have hb8_ := hall 8 (by kernel_rfl)
      have hb9_ := hall 9 (by kernel_rfl)
      have hb10_ := hall 10 (by kernel_rfl)
      subst ha
      obtain rfl := Q_X1_ hb1_
      simp only [putSel, hb0_, hb1_, hb2_, hb3_, hb4_, hb5_, hb6_, hb7_, hb8_, hb9_, hb10_, if_true, Act.put, List.setIfInBounds_toArray, List.set_cons_zero, List.set_cons_succ]
      have BK226 := Aside0.mk Q_BK226
      clear Q_BK226
      have HB := Aside0.mk Q_HB
      clear Q_HB
      have HO254 := Aside0.mk (Q_HO254 hb1_)
      clear Q_HO254
      clear Q_HO257
      clear Q_HO260
      have HO263 := Aside0.mk (Q_HO263 hb4_)
      clear Q_HO263
      clear hall hb0_ hb1_ hb2_ hb3_ hb4_ hb5_ hb6_ hb7_ hb8_ hb9_ hb10_
      try go_wp2
      go_meet
      case rel => exact ⟨_, (t264), (t265), (by first | rfl | (simp; done) | (simp [*]; done)), (by first | rfl | (simp; done) | (simp [*]; done)), H', ⟨by have := HJ0.out; have := HJ17.out; first | omega | exact Nat.le_refl _⟩, ⟨Bk BK226.out⟩, ⟨Bw HB.out⟩⟩
     case rest =>
      clear HC32
      (try clear c1); (try clear c2); (try clear p2); (try clear c8); (try clear c13); (try clear c14); (try clear c24); (try clear hcz3_0); (try clear hcz3_1); (try clear hfz3_0); (try clear hfz3_1); (try clear p2)
      obtain ⟨kq, x6_31, x7_31, rfl, rfl, HA, HJ31, BK226, HB⟩ := hcut
      cases kq with
      | zero => exact absurd HA.out (by simp [examboardlaw43_awake.j2])
      | succ kj31 =>
       have H := HA.out
       clear HA
       simp only [examboardlaw43_awake.j2] at H
       have HC49 := Aside0.mk H
       clear H
       go_upto_region 5 with (fail)
       go_cut [8, 9] (fun v8 v9 wc => ∃ (kq : Nat) (x8_48 : Int) (x9_48 : Int), v8 = .int .i64 x8_48 ∧ v9 = .int .i64 x9_48 ∧ Aside0 (examboardlaw43_awake.j3 kq x2_0 x3_0 x4_17 x5_17 x6_31 x7_31 x8_48 x9_48 1 2 = some r) ∧ Aside0 (kq ≤ kj31) ∧ Aside0 (wc.heap[gb226]? = some (.cells #[.int .i64 1, .int .i64 2] 23 (0, 0))) ∧ Aside0 (Below w.heap.size w wc))
       case first =>
        have H := HC49.out
        clear HC49
        replace H := Option.bind_eq_some_iff.mp H
        obtain ⟨⟨t266, t267⟩, A500, H⟩ := H
        replace H : ((adjudicate_Score.f kj31 1 2 t266 t267 (([(([3] : List Int)), (([2] : List Int))] : List (List Int)))).bind fun bt279 => (examboardlaw43_awake.j3 kj31 x2_0 x3_0 x4_17 x5_17 x6_31 x7_31 bt279.1 bt279.2 1 2)) = some r := H
        have A50 := Aside0.mk A500
        clear A500
        obtain ⟨y270, hy270⟩ : ∃ y_ : List Int, y_ = (([3] : List Int)) := ⟨_, rfl⟩
        replace H : ((adjudicate_Score.f kj31 1 2 t266 t267 (([y270, (([2] : List Int))] : List (List Int)))).bind fun bt279 => (examboardlaw43_awake.j3 kj31 x2_0 x3_0 x4_17 x5_17 x6_31 x7_31 bt279.1 bt279.2 1 2)) = some r := by first | (rw [hy270]; with_reducible exact H) | (have H2_ := (Option.bind_some _ _).symm.trans H; rw [hy270]; with_reducible exact H2_) | (have H2_ := (Option.bind_some _ _).symm.trans H; with_reducible exact H2_) | with_reducible exact H | (rw [hy270]; exact H) | exact H
        have Ny270 := Aside0.mk hy270
        clear hy270
        obtain ⟨y273, hy273⟩ : ∃ y_ : List Int, y_ = (([2] : List Int)) := ⟨_, rfl⟩
        replace H : ((adjudicate_Score.f kj31 1 2 t266 t267 (([y270, y273] : List (List Int)))).bind fun bt279 => (examboardlaw43_awake.j3 kj31 x2_0 x3_0 x4_17 x5_17 x6_31 x7_31 bt279.1 bt279.2 1 2)) = some r := by first | (rw [hy273]; with_reducible exact H) | (have H2_ := (Option.bind_some _ _).symm.trans H; rw [hy273]; with_reducible exact H2_) | (have H2_ := (Option.bind_some _ _).symm.trans H; with_reducible exact H2_) | with_reducible exact H | (rw [hy273]; exact H) | exact H
        have Ny273 := Aside0.mk hy273
        clear hy273
        obtain ⟨y276, hy276⟩ : ∃ y_ : List (List Int), y_ = (([y270, y273] : List (List Int))) := ⟨_, rfl⟩
        replace H : ((adjudicate_Score.f kj31 1 2 t266 t267 y276).bind fun bt279 => (examboardlaw43_awake.j3 kj31 x2_0 x3_0 x4_17 x5_17 x6_31 x7_31 bt279.1 bt279.2 1 2)) = some r := by first | (rw [hy276]; with_reducible exact H) | (have H2_ := (Option.bind_some _ _).symm.trans H; rw [hy276]; with_reducible exact H2_) | (have H2_ := (Option.bind_some _ _).symm.trans H; with_reducible exact H2_) | with_reducible exact H | (rw [hy276]; exact H) | exact H
        have Ny276 := Aside0.mk hy276
        clear hy276
        replace H := Option.bind_eq_some_iff.mp H
        obtain ⟨⟨t279, t280⟩, A510, H⟩ := H
        replace H : (examboardlaw43_awake.j3 kj31 x2_0 x3_0 x4_17 x5_17 x6_31 x7_31 t279 t280 1 2) = some r := H
        have A51 := Aside0.mk A510
        clear A510
        have H' := Aside0.mk H
        clear H
        try go_wp2
        have n0_ := Aside0.mk (blk_drew BK226.out)
        have n1_ := Aside0.mk (below_drew1 HB.out)
        clear BK226
        clear HB
        have BK226 := n0_
        have HB := n1_
        clear n0_ n1_
        refine start_ (n := 11) (S := fun w' => True) (ds := []) #[Z,Z,Z,Z,Z,Z,Z,Z,Z,Z,Z] (by kernel_rfl) rfl rfl trivial (fun hHeld => ?_); refine with_tabW examboardlaw43_awake.tab5 examboardlaw43_awake.bits5 (fun HT_ HW_ => ?_)
        generalize wc.drew = w52 at BK226 HB hHeld ⊢
        refine inv_at [0, 1, 2, 3, 4, 5, 6, 7, 8, 9, 10] (fun a0_ b a w' => ∃ (v268 : Value) (v271 : Value) (v274 : Value) (v277 : Value) (m1_ : Value), a = putSel a0_ b [(0, 41, .agg #[.int .i64 1, .int .i64 2]), (1, 42, m1_), (2, 43, v271), (3, 44, v274), (4, 45, v277), (5, 46, .tuple #[.int .i64 t279, .int .i64 t280]), (6, 40, .tuple #[.int .i64 t279, .int .i64 t280]), (7, 47, .int .i64 t279), (8, 48, .int .i64 t280), (9, 8, .int .i64 t279), (10, 9, .int .i64 t280)] ∧ (w'.heap[gb226]? = some (.cells #[.int .i64 1, .int .i64 2] 23 (0, 0))) ∧ (Below w.heap.size w w') ∧ (b 1 = true → Kd.R k59 59 w' w.heap.size (fun _ => True) v268 t267) ∧ (b 2 = true → b 4 = false → Kd.R (Kd.int .i64) 3 w' w.heap.size (fun _ => True) v271 y270) ∧ (b 3 = true → b 4 = false → Kd.R (Kd.int .i64) 3 w' w.heap.size (fun _ => True) v274 y273) ∧ (b 4 = true → Kd.N (Kd.slice 3 (Kd.int .i64)) 29 w' w.heap.size (fun k_ => k_ ≠ gb226) v277 y276) ∧ (b 1 = true → (m1_ : Value) = .agg #[.int .i64 t266, v268])) HT_.out HW_.out (by kernel_rfl) (by kernel_rfl) ?_ ?_ ?_
        ·
         exact ⟨.bool false, .bool false, .bool false, .bool false, .bool false, by simp only [putSel, Bool.false_eq_true, if_false], BK226.out, HB.out, fun h_ => absurd h_ (by decide), fun h_ => absurd h_ (by decide), fun h_ => absurd h_ (by decide), fun h_ => absurd h_ (by decide), fun h_ => absurd h_ (by decide)⟩
        ·
         skip
         clear BK226 HB
         refine steps_cons ?_ ?_
         ·
          rintro b a w' ⟨v268, v271, v274, v277, m1_, ha, Q_BK226, Q_HB, Q_HO269, Q_HO272, Q_HO275, Q_HO278, Q_X1_⟩ hb_ hon hoff
          refine ⟨_, rfl, fun K hK => ?_⟩
          have e1 : a.tmps[1]? = some (.pointer (some ⟨gb226, 0, none⟩)) := by rw [ha]; exact (putSel_off rfl).trans rfl
          replace ha := Aside0.mk ha
          have BK226 := Aside0.mk Q_BK226
          have HB := Aside0.mk Q_HB
          have hc0_ : w'.cell? ⟨gb226, 0, none⟩ = some (.int .i64 1) := (blk_cell BK226.out 0).trans rfl
          have hc1_ : w'.cell? ⟨gb226, 1, none⟩ = some (.int .i64 2) := (blk_cell BK226.out 1).trans rfl
          refine value_ (w1 := w') (v := .agg #[.int .i64 1, .int .i64 2]) (by rfl) rfl ?_ ?_
          ·
           go_simp
           (try simp only [i64_w])
           try rfl
          refine hK.out _ _ ⟨v268, v271, v274, v277, m1_, (by rw [ha.out]; exact putSel_upk 0 hb_ rfl rfl rfl), Q_BK226, Q_HB, Q_HO269, Q_HO272, Q_HO275, Q_HO278, Q_X1_⟩
         refine steps_cons ?_ ?_
         ·
          rintro b a w' ⟨v268, v271, v274, v277, m1_, ha, Q_BK226, Q_HB, Q_HO269, Q_HO272, Q_HO275, Q_HO278, Q_X1_⟩ hb_ hon hoff
          refine ⟨_, rfl, fun K hK => ?_⟩
          replace ha := Aside0.mk ha
          have BK226 := Aside0.mk Q_BK226
          have HB := Aside0.mk Q_HB
          refine goes_ Try.func24 (by kernel_rfl) rfl #[] (by rfl) rfl rfl (by first | (simp only [List.map_toArray, List.map_cons, List.map_nil, Act.eval, Array.getD_eq_getD_getElem?, Option.getD_some]; done) | (simp only [List.map_toArray, List.map_cons, List.map_nil, Act.eval, Array.getD_eq_getD_getElem?, Option.getD_some]; rfl)) ?_
          with_reducible refine (examboardlaw43_sample.calls  t266 t267 _ A50.out).mono ?_
          rintro e w53 ⟨v268, rfl, ho0, hb⟩
          refine ⟨_, rfl, ?_⟩
          have n0_ := Aside0.mk (Kd.R_lower ho0 (below_size (Bw HB.out)))
          have n1_ := Aside0.mk (blk_below (g := gb226) (o := .cells #[.int .i64 1, .int .i64 2] 23 (0, 0)) (Bk BK226.out) hb)
          have n2_ := Aside0.mk (below_step (Bw HB.out) hb)
          have z_HO272 := fun (h0_ : b 2 = true) (h1_ : b 4 = false) => (show Kd.R (Kd.int .i64) 3 w53 w.heap.size (fun _ => True) v271 y270 from by first | exact (Kd.R_below (Rk (Q_HO272 h0_ h1_)) hb) | exact Kd.R_mono (Kd.R_below (Rk (Q_HO272 h0_ h1_)) hb) (fun _ h_ => by first | trivial | exact h_ | exact h_.1))
          have z_HO275 := fun (h0_ : b 3 = true) (h1_ : b 4 = false) => (show Kd.R (Kd.int .i64) 3 w53 w.heap.size (fun _ => True) v274 y273 from by first | exact (Kd.R_below (Rk (Q_HO275 h0_ h1_)) hb) | exact Kd.R_mono (Kd.R_below (Rk (Q_HO275 h0_ h1_)) hb) (fun _ h_ => by first | trivial | exact h_ | exact h_.1))
          have z_HO278 := fun (h0_ : b 4 = true) => (show Kd.N (Kd.slice 3 (Kd.int .i64)) 29 w53 w.heap.size (fun k_ => k_ ≠ gb226) v277 y276 from by first | exact (Kd.N_elder' (by (with_reducible repeat (first | apply Kd.N_alloc | apply Kd.N_drewN | apply Kd.N_drew)); exact (Q_HO278 h0_)) (Kd.R_base ho0) hb) | exact Kd.N_mono (Kd.N_elder' (by (with_reducible repeat (first | apply Kd.N_alloc | apply Kd.N_drewN | apply Kd.N_drew)); exact (Q_HO278 h0_)) (Kd.R_base ho0) hb) (fun _ h_ => by first | trivial | exact h_ | exact h_.1))
          clear BK226
          clear HB
          have HO269 := n0_
          have BK226 := n1_
          have HB := n2_
          clear n0_ n1_ n2_
          (try clear hb)
          (try clear hb2)
          (try clear hk)
          (try clear hi)
          (try clear ho0)
          refine hK.out _ _ ⟨v268, v271, v274, v277, (.agg #[.int .i64 t266, v268]), (by rw [ha.out]; exact putSel_upk 1 hb_ rfl rfl rfl), (Bk BK226.out), (Bw HB.out), fun _ => (Rk HO269.out), z_HO272, z_HO275, z_HO278, fun _ => rfl⟩
         refine steps_cons ?_ ?_
         ·
          rintro b a w' ⟨v268, v271, v274, v277, m1_, ha, Q_BK226, Q_HB, Q_HO269, Q_HO272, Q_HO275, Q_HO278, Q_X1_⟩ hb_ hon hoff
          refine ⟨_, rfl, fun K hK => ?_⟩
          replace ha := Aside0.mk ha
          have BK226 := Aside0.mk Q_BK226
          have HB := Aside0.mk Q_HB
          refine Kd.R_lit_step (Kd.int .i64) _ 3 ?hg (N := 43) ?hd (xs := ([3] : List Int)) (inner := [.int .i64 3]) (ok := fun _ => True) (okp := fun _ => True) ?hr ?hp (fun _ hk => hk) trivial (Below.refl _ _) (Nat.le_refl _) (by simp) ?_; (case hd => rfl); (case hg => rfl); (case hr => first | (go_simp; done) | (go_simp; rfl)); (case hp => exact (Reps.one (show Kd.M (Kd.int .i64) _ _ _ 3 [.int .i64 3] from rfl) (Reps.none _ _)))
          intro v271 w53 ho54 hb hg_ hnew_
          clear hg_ hnew_
          (first | rw [← Ny270.out] at ho54 | (simp only [Int.reduceToNat] at ho54; rw [← Ny270.out] at ho54))
          have n0_ := Aside0.mk (Kd.R_lower ho54 (below_size (Bw HB.out)))
          have n1_ := Aside0.mk (blk_below (g := gb226) (o := .cells #[.int .i64 1, .int .i64 2] 23 (0, 0)) (Bk BK226.out) hb)
          have n2_ := Aside0.mk (below_step (Bw HB.out) hb)
          have z_HO269 := fun (h0_ : b 1 = true) => (show Kd.R k59 59 w53 w.heap.size (fun _ => True) v268 t267 from by first | exact (Kd.R_below (Rk (Q_HO269 h0_)) hb) | exact Kd.R_mono (Kd.R_below (Rk (Q_HO269 h0_)) hb) (fun _ h_ => by first | trivial | exact h_ | exact h_.1))
          have z_HO275 := fun (h0_ : b 3 = true) (h1_ : b 4 = false) => (show Kd.R (Kd.int .i64) 3 w53 w.heap.size (fun _ => True) v274 y273 from by first | exact (Kd.R_elder' (Rk (Q_HO275 h0_ h1_)) (Kd.R_base ho54) hb) | exact Kd.R_mono (Kd.R_elder' (Rk (Q_HO275 h0_ h1_)) (Kd.R_base ho54) hb) (fun _ h_ => by first | trivial | exact h_ | exact h_.1))
          clear BK226
          clear HB
          have HO272 := n0_
          have BK226 := n1_
          have HB := n2_
          clear n0_ n1_ n2_
          clear hb ho54
          refine hK.out _ _ ⟨v268, v271, v274, v277, m1_, (by rw [ha.out]; exact putSel_upk 2 hb_ rfl rfl rfl), (Bk BK226.out), (Bw HB.out), z_HO269, fun _ _ => (Rk HO272.out), z_HO275, fun h0_ => absurd ((hoff 4 (by kernel_rfl)).symm.trans h0_) (by decide), Q_X1_⟩
         refine steps_cons ?_ ?_
         ·
          rintro b a w' ⟨v268, v271, v274, v277, m1_, ha, Q_BK226, Q_HB, Q_HO269, Q_HO272, Q_HO275, Q_HO278, Q_X1_⟩ hb_ hon hoff
          refine ⟨_, rfl, fun K hK => ?_⟩
          replace ha := Aside0.mk ha
          have BK226 := Aside0.mk Q_BK226
          have HB := Aside0.mk Q_HB
          refine Kd.R_lit_step (Kd.int .i64) _ 3 ?hg (N := 44) ?hd (xs := ([2] : List Int)) (inner := [.int .i64 2]) (ok := fun _ => True) (okp := fun _ => True) ?hr ?hp (fun _ hk => hk) trivial (Below.refl _ _) (Nat.le_refl _) (by simp) ?_; (case hd => rfl); (case hg => rfl); (case hr => first | (go_simp; done) | (go_simp; rfl)); (case hp => exact (Reps.one (show Kd.M (Kd.int .i64) _ _ _ 2 [.int .i64 2] from rfl) (Reps.none _ _)))
          intro v274 w53 ho54 hb hg_ hnew_
          clear hg_ hnew_
          (first | rw [← Ny273.out] at ho54 | (simp only [Int.reduceToNat] at ho54; rw [← Ny273.out] at ho54))
          have n0_ := Aside0.mk (Kd.R_lower ho54 (below_size (Bw HB.out)))
          have n1_ := Aside0.mk (blk_below (g := gb226) (o := .cells #[.int .i64 1, .int .i64 2] 23 (0, 0)) (Bk BK226.out) hb)
          have n2_ := Aside0.mk (below_step (Bw HB.out) hb)
          have z_HO269 := fun (h0_ : b 1 = true) => (show Kd.R k59 59 w53 w.heap.size (fun _ => True) v268 t267 from by first | exact (Kd.R_below (Rk (Q_HO269 h0_)) hb) | exact Kd.R_mono (Kd.R_below (Rk (Q_HO269 h0_)) hb) (fun _ h_ => by first | trivial | exact h_ | exact h_.1))
          have z_HO272 := fun (h0_ : b 2 = true) (h1_ : b 4 = false) => (show Kd.R (Kd.int .i64) 3 w53 w.heap.size (fun _ => True) v271 y270 from by first | exact (Kd.R_elder' (Rk (Q_HO272 h0_ h1_)) (Kd.R_base ho54) hb) | exact Kd.R_mono (Kd.R_elder' (Rk (Q_HO272 h0_ h1_)) (Kd.R_base ho54) hb) (fun _ h_ => by first | trivial | exact h_ | exact h_.1))
          clear BK226
          clear HB
          have HO275 := n0_
          have BK226 := n1_
          have HB := n2_
          clear n0_ n1_ n2_
          clear hb ho54
          refine hK.out _ _ ⟨v268, v271, v274, v277, m1_, (by rw [ha.out]; exact putSel_upk 3 hb_ rfl rfl rfl), (Bk BK226.out), (Bw HB.out), z_HO269, z_HO272, fun _ _ => (Rk HO275.out), fun h0_ => absurd ((hoff 4 (by kernel_rfl)).symm.trans h0_) (by decide), Q_X1_⟩
         refine steps_cons ?_ ?_
         ·
          rintro b a w' ⟨v268, v271, v274, v277, m1_, ha, Q_BK226, Q_HB, Q_HO269, Q_HO272, Q_HO275, Q_HO278, Q_X1_⟩ hb_ hon hoff
          refine ⟨_, rfl, fun K hK => ?_⟩
          have e43 : a.tmps[43]? = some (v271) := by rw [ha]; exact putSel_on (e := (2, 43, v271)) 2 rfl rfl (hon 2 (by kernel_rfl)) rfl
          have e44 : a.tmps[44]? = some (v274) := by rw [ha]; exact putSel_on (e := (3, 44, v274)) 3 rfl rfl (hon 3 (by kernel_rfl)) rfl
          replace ha := Aside0.mk ha
          have BK226 := Aside0.mk Q_BK226
          have HB := Aside0.mk Q_HB
          have HO272 := Aside0.mk (Q_HO272 (hon 2 (by kernel_rfl)) hb_)
          have HO275 := Aside0.mk (Q_HO275 (hon 3 (by kernel_rfl)) hb_)
          obtain ⟨Ao58, co58, eo58⟩ := Kd.R_slice HO272.out
          (first | subst eo58 | (injection eo58 with f1_ f2_ f3_; have f4_ := f1_.symm; have f5_ := f3_.symm; clear f1_ f2_ f3_; subst f4_; subst f5_))
          obtain ⟨Ao59, co59, eo59⟩ := Kd.R_slice HO275.out
          (first | subst eo59 | (injection eo59 with f1_ f2_ f3_; have f4_ := f1_.symm; have f5_ := f3_.symm; clear f1_ f2_ f3_; subst f4_; subst f5_))
          refine Kd.N_lit_step (Kd.slice 3 (Kd.int .i64)) _ 29 ?hg (N' := 45) ?hd (xs := ([y270, y273] : List (List Int))) (inner := [.slice Ao58 y270.length co58, .slice Ao59 y273.length co59]) (ok := (fun k_ => k_ ≠ gb226)) (okp := (fun k_ => k_ ≠ gb226)) ?hr ?hp (fun _ hk => hk) ((show ∀ k_, w'.heap.size ≤ k_ → (fun k_ => k_ ≠ gb226) k_ from fun k_ hk => Kd.freshB (g := gb226) (o := .cells #[.int .i64 1, .int .i64 2] 23 (0, 0)) (Bk BK226.out) k_ hk) _ (Nat.le_refl _)) (Below.refl _ _) (Nat.le_refl _) (by simp) ?_; (case hd => rfl); (case hg => rfl); (case hr => first | (go_simp; done) | (go_simp; rfl)); (case hp => exact (Reps.one (show Kd.FK (Kd.slice 3 (Kd.int .i64)) _ _ y270 [.slice Ao58 y270.length co58] from (Kd.FK_slice_mk (Kd.R_reads' (Kd.R_mono (ok' := (fun k_ => k_ ≠ gb226)) (Kd.R_types (HO272.out) BK226.out (by decide)) (fun k_ hk => hk.2))).2.1 (Kd.R_F (Kd.R_mono (ok' := (fun k_ => k_ ≠ gb226)) (Kd.R_types (HO272.out) BK226.out (by decide)) (fun k_ hk => hk.2))))) (Reps.one (show Kd.FK (Kd.slice 3 (Kd.int .i64)) _ _ y273 [.slice Ao59 y273.length co59] from (Kd.FK_slice_mk (Kd.R_reads' (Kd.R_mono (ok' := (fun k_ => k_ ≠ gb226)) (Kd.R_types (HO275.out) BK226.out (by decide)) (fun k_ hk => hk.2))).2.1 (Kd.R_F (Kd.R_mono (ok' := (fun k_ => k_ ≠ gb226)) (Kd.R_types (HO275.out) BK226.out (by decide)) (fun k_ hk => hk.2))))) (Reps.none _ _))))
          intro v277 w60 ho61 hb hg_ hnew_
          clear hg_ hnew_
          (first | rw [← Ny276.out] at ho61 | (simp only [Int.reduceToNat] at ho61; rw [← Ny276.out] at ho61))
          have n0_ := Aside0.mk (Kd.N_lower ho61 (below_size (Bw HB.out)))
          have n1_ := Aside0.mk (blk_below (g := gb226) (o := .cells #[.int .i64 1, .int .i64 2] 23 (0, 0)) (Bk BK226.out) hb)
          have n2_ := Aside0.mk (below_step (Bw HB.out) hb)
          have z_HO269 := fun (h0_ : b 1 = true) => (show Kd.R k59 59 w60 w.heap.size (fun _ => True) v268 t267 from by first | exact (Kd.R_below (Rk (Q_HO269 h0_)) hb) | exact Kd.R_mono (Kd.R_below (Rk (Q_HO269 h0_)) hb) (fun _ h_ => by first | trivial | exact h_ | exact h_.1))
          clear BK226
          clear HB
          clear HO272
          clear HO275
          have HO278 := n0_
          have BK226 := n1_
          have HB := n2_
          clear n0_ n1_ n2_
          clear hb ho61
          refine hK.out _ _ ⟨v268, .slice Ao58 y270.length co58, .slice Ao59 y273.length co59, v277, m1_, (by rw [ha.out]; exact putSel_upk 4 hb_ rfl rfl rfl), (Bk BK226.out), (Bw HB.out), z_HO269, fun _ h1_ => absurd ((up_self b 4).symm.trans h1_) (by decide), fun _ h1_ => absurd ((up_self b 4).symm.trans h1_) (by decide), fun _ => (by (with_reducible repeat (first | apply Kd.N_alloc | apply Kd.N_drewN | apply Kd.N_drew)); exact HO278.out), Q_X1_⟩
         refine steps_cons ?_ ?_
         ·
          rintro b a w' ⟨v268, v271, v274, v277, m1_, ha, Q_BK226, Q_HB, Q_HO269, Q_HO272, Q_HO275, Q_HO278, Q_X1_⟩ hb_ hon hoff
          refine ⟨_, rfl, fun K hK => ?_⟩
          have e41 : a.tmps[41]? = some (.agg #[.int .i64 1, .int .i64 2]) := by rw [ha]; exact putSel_on (e := (0, 41, .agg #[.int .i64 1, .int .i64 2])) 0 rfl rfl (hon 0 (by kernel_rfl)) rfl
          have e42 : a.tmps[42]? = some (m1_) := by rw [ha]; exact putSel_on (e := (1, 42, m1_)) 1 rfl rfl (hon 1 (by kernel_rfl)) rfl
          rw [Q_X1_ (hon 1 (by kernel_rfl))] at e42
          have e45 : a.tmps[45]? = some (v277) := by rw [ha]; exact putSel_on (e := (4, 45, v277)) 4 rfl rfl (hon 4 (by kernel_rfl)) rfl
          replace ha := Aside0.mk ha
          have BK226 := Aside0.mk Q_BK226
          have HB := Aside0.mk Q_HB
          have HO269 := Aside0.mk (Q_HO269 (hon 1 (by kernel_rfl)))
          have HO278 := Aside0.mk (Q_HO278 (hon 4 (by kernel_rfl)))
          obtain ⟨Ao63, co63, eo63⟩ := Kd.R_slice HO269.out
          (first | subst eo63 | (injection eo63 with f1_ f2_ f3_; have f4_ := f1_.symm; have f5_ := f3_.symm; clear f1_ f2_ f3_; subst f4_; subst f5_))
          obtain ⟨Ao64, co64, eo64⟩ := Kd.N_slice HO278.out
          (first | subst eo64 | (injection eo64 with f1_ f2_ f3_; have f4_ := f1_.symm; have f5_ := f3_.symm; clear f1_ f2_ f3_; subst f4_; subst f5_))
          refine goes_ Try.func12 (by kernel_rfl) rfl #[.agg #[.int .i64 1, .int .i64 2], .agg #[.int .i64 t266, .slice Ao63 t267.length co63], .slice Ao64 y276.length co64] (by rfl) rfl rfl (by first | (simp only [List.map_toArray, List.map_cons, List.map_nil, Act.eval, Array.getD_eq_getD_getElem?, Option.getD_some, e41, e42, e45]; done) | (simp only [List.map_toArray, List.map_cons, List.map_nil, Act.eval, Array.getD_eq_getD_getElem?, Option.getD_some, e41, e42, e45]; rfl)) ?_
          with_reducible refine (adjudicate_Score.calls kj31 1 2 t266 _ _ t267 _ _ y276 t279 t280 _ ?side1 ?side2 ?side3 ?side4 A51.out).mono ?_
          (case side1 => exact Ck (Kd.R_reads' HO269.out).2.2)
          (case side2 => exact (Kd.R_reads' HO269.out).2.1)
          (case side3 => exact Ck (Kd.N_reads' HO278.out).2.2)
          (case side4 => exact (Kd.N_reads' HO278.out).2.1)
          rintro e w65 ⟨rfl, hb⟩
          refine ⟨_, rfl, ?_⟩
          have n0_ := Aside0.mk (Kd.R_below (Rk HO269.out) hb)
          have n1_ := Aside0.mk (Kd.N_below (by (with_reducible repeat (first | apply Kd.N_alloc | apply Kd.N_drewN | apply Kd.N_drew)); exact HO278.out) hb)
          have n2_ := Aside0.mk (blk_below (g := gb226) (o := .cells #[.int .i64 1, .int .i64 2] 23 (0, 0)) (Bk BK226.out) hb)
          have n3_ := Aside0.mk (below_step (Bw HB.out) hb)
          clear HO269
          clear HO278
          clear BK226
          clear HB
          have HO269 := n0_
          have HO278 := n1_
          have BK226 := n2_
          have HB := n3_
          clear n0_ n1_ n2_ n3_
          (try clear hb)
          (try clear hb2)
          (try clear hk)
          (try clear hi)
          refine hK.out _ _ ⟨.slice Ao63 t267.length co63, v271, v274, .slice Ao64 y276.length co64, m1_, (by rw [ha.out]; exact putSel_upk 5 hb_ rfl rfl rfl), (Bk BK226.out), (Bw HB.out), fun _ => (Rk HO269.out), fun _ h1_ => absurd ((hon 4 (by kernel_rfl)).symm.trans h1_) (by decide), fun _ h1_ => absurd ((hon 4 (by kernel_rfl)).symm.trans h1_) (by decide), fun _ => (by (with_reducible repeat (first | apply Kd.N_alloc | apply Kd.N_drewN | apply Kd.N_drew)); exact HO278.out), Q_X1_⟩
         refine steps_cons ?_ ?_
         ·
          rintro b a w' ⟨v268, v271, v274, v277, m1_, ha, Q_BK226, Q_HB, Q_HO269, Q_HO272, Q_HO275, Q_HO278, Q_X1_⟩ hb_ hon hoff
          refine ⟨_, rfl, fun K hK => ?_⟩
          have e46 : a.tmps[46]? = some (.tuple #[.int .i64 t279, .int .i64 t280]) := by rw [ha]; exact putSel_on (e := (5, 46, .tuple #[.int .i64 t279, .int .i64 t280])) 5 rfl rfl (hon 5 (by kernel_rfl)) rfl
          replace ha := Aside0.mk ha
          have BK226 := Aside0.mk Q_BK226
          have HB := Aside0.mk Q_HB
          have HO269 := Aside0.mk (Q_HO269 (hon 1 (by kernel_rfl)))
          have HO278 := Aside0.mk (Q_HO278 (hon 4 (by kernel_rfl)))
          refine value_ (w1 := w') (v := .tuple #[.int .i64 t279, .int .i64 t280]) (by rfl) rfl ?_ ?_
          ·
           go_simp
           (try simp only [i64_w])
           try rfl
          refine hK.out _ _ ⟨v268, v271, v274, v277, m1_, (by rw [ha.out]; exact putSel_upk 6 hb_ rfl rfl rfl), Q_BK226, Q_HB, Q_HO269, fun _ h1_ => absurd ((hon 4 (by kernel_rfl)).symm.trans h1_) (by decide), fun _ h1_ => absurd ((hon 4 (by kernel_rfl)).symm.trans h1_) (by decide), Q_HO278, Q_X1_⟩
         refine steps_cons ?_ ?_
         ·
          rintro b a w' ⟨v268, v271, v274, v277, m1_, ha, Q_BK226, Q_HB, Q_HO269, Q_HO272, Q_HO275, Q_HO278, Q_X1_⟩ hb_ hon hoff
          refine ⟨_, rfl, fun K hK => ?_⟩
          have e40 : a.tmps[40]? = some (.tuple #[.int .i64 t279, .int .i64 t280]) := by rw [ha]; exact putSel_on (e := (6, 40, .tuple #[.int .i64 t279, .int .i64 t280])) 6 rfl rfl (hon 6 (by kernel_rfl)) rfl
          replace ha := Aside0.mk ha
          have BK226 := Aside0.mk Q_BK226
          have HB := Aside0.mk Q_HB
          have HO269 := Aside0.mk (Q_HO269 (hon 1 (by kernel_rfl)))
          have HO278 := Aside0.mk (Q_HO278 (hon 4 (by kernel_rfl)))
          refine value_ (w1 := w') (v := .int .i64 t279) (by rfl) rfl ?_ ?_
          ·
           go_simp
           (try simp only [i64_w])
           try rfl
          refine hK.out _ _ ⟨v268, v271, v274, v277, m1_, (by rw [ha.out]; exact putSel_upk 7 hb_ rfl rfl rfl), Q_BK226, Q_HB, Q_HO269, fun _ h1_ => absurd ((hon 4 (by kernel_rfl)).symm.trans h1_) (by decide), fun _ h1_ => absurd ((hon 4 (by kernel_rfl)).symm.trans h1_) (by decide), Q_HO278, Q_X1_⟩
         refine steps_cons ?_ ?_
         ·
          rintro b a w' ⟨v268, v271, v274, v277, m1_, ha, Q_BK226, Q_HB, Q_HO269, Q_HO272, Q_HO275, Q_HO278, Q_X1_⟩ hb_ hon hoff
          refine ⟨_, rfl, fun K hK => ?_⟩
          have e40 : a.tmps[40]? = some (.tuple #[.int .i64 t279, .int .i64 t280]) := by rw [ha]; exact putSel_on (e := (6, 40, .tuple #[.int .i64 t279, .int .i64 t280])) 6 rfl rfl (hon 6 (by kernel_rfl)) rfl
          replace ha := Aside0.mk ha
          have BK226 := Aside0.mk Q_BK226
          have HB := Aside0.mk Q_HB
          have HO269 := Aside0.mk (Q_HO269 (hon 1 (by kernel_rfl)))
          have HO278 := Aside0.mk (Q_HO278 (hon 4 (by kernel_rfl)))
          refine value_ (w1 := w') (v := .int .i64 t280) (by rfl) rfl ?_ ?_
          ·
           go_simp
           (try simp only [i64_w])
           try rfl
          refine hK.out _ _ ⟨v268, v271, v274, v277, m1_, (by rw [ha.out]; exact putSel_upk 8 hb_ rfl rfl rfl), Q_BK226, Q_HB, Q_HO269, fun _ h1_ => absurd ((hon 4 (by kernel_rfl)).symm.trans h1_) (by decide), fun _ h1_ => absurd ((hon 4 (by kernel_rfl)).symm.trans h1_) (by decide), Q_HO278, Q_X1_⟩
         refine steps_cons ?_ ?_
         ·
          rintro b a w' ⟨v268, v271, v274, v277, m1_, ha, Q_BK226, Q_HB, Q_HO269, Q_HO272, Q_HO275, Q_HO278, Q_X1_⟩ hb_ hon hoff
          refine ⟨_, rfl, fun K hK => ?_⟩
          have e47 : a.tmps[47]? = some (.int .i64 t279) := by rw [ha]; exact putSel_on (e := (7, 47, .int .i64 t279)) 7 rfl rfl (hon 7 (by kernel_rfl)) rfl
          replace ha := Aside0.mk ha
          have BK226 := Aside0.mk Q_BK226
          have HB := Aside0.mk Q_HB
          have HO269 := Aside0.mk (Q_HO269 (hon 1 (by kernel_rfl)))
          have HO278 := Aside0.mk (Q_HO278 (hon 4 (by kernel_rfl)))
          refine value_ (w1 := w') (v := .int .i64 t279) (by rfl) rfl ?_ ?_
          ·
           go_simp
           (try simp only [i64_w])
           try rfl
          refine hK.out _ _ ⟨v268, v271, v274, v277, m1_, (by rw [ha.out]; exact putSel_upk 9 hb_ rfl rfl rfl), Q_BK226, Q_HB, Q_HO269, fun _ h1_ => absurd ((hon 4 (by kernel_rfl)).symm.trans h1_) (by decide), fun _ h1_ => absurd ((hon 4 (by kernel_rfl)).symm.trans h1_) (by decide), Q_HO278, Q_X1_⟩
         refine steps_cons ?_ ?_
         ·
          rintro b a w' ⟨v268, v271, v274, v277, m1_, ha, Q_BK226, Q_HB, Q_HO269, Q_HO272, Q_HO275, Q_HO278, Q_X1_⟩ hb_ hon hoff
          refine ⟨_, rfl, fun K hK => ?_⟩
          have e48 : a.tmps[48]? = some (.int .i64 t280) := by rw [ha]; exact putSel_on (e := (8, 48, .int .i64 t280)) 8 rfl rfl (hon 8 (by kernel_rfl)) rfl
          replace ha := Aside0.mk ha
          have BK226 := Aside0.mk Q_BK226
          have HB := Aside0.mk Q_HB
          have HO269 := Aside0.mk (Q_HO269 (hon 1 (by kernel_rfl)))
          have HO278 := Aside0.mk (Q_HO278 (hon 4 (by kernel_rfl)))
          refine value_ (w1 := w') (v := .int .i64 t280) (by rfl) rfl ?_ ?_
          ·
           go_simp
           (try simp only [i64_w])
           try rfl
          refine hK.out _ _ ⟨v268, v271, v274, v277, m1_, (by rw [ha.out]; exact putSel_upk 10 hb_ rfl rfl rfl), Q_BK226, Q_HB, Q_HO269, fun _ h1_ => absurd ((hon 4 (by kernel_rfl)).symm.trans h1_) (by decide), fun _ h1_ => absurd ((hon 4 (by kernel_rfl)).symm.trans h1_) (by decide), Q_HO278, Q_X1_⟩
         exact steps_nil
        rintro b a w65 hall ⟨v268, v271, v274, v277, m1_, ha, Q_BK226, Q_HB, Q_HO269, Q_HO272, Q_HO275, Q_HO278, Q_X1_⟩
        clear BK226 HB
        have hb0_ := hall 0 (by kernel_rfl)
        have hb1_ := hall 1 (by kernel_rfl)
        have hb2_ := hall 2 (by kernel_rfl)
        have hb3_ := hall 3 (by kernel_rfl)
        have hb4_ := hall 4 (by kernel_rfl)
        have hb5_ := hall 5 (by kernel_rfl)
        have hb6_ := hall 6 (by kernel_rfl)
        have hb7_ := hall 7 (by kernel_rfl)
        have hb8_ := hall 8 (by kernel_rfl)
        have hb9_ := hall 9 (by kernel_rfl)
        have hb10_ := hall 10 (by kernel_rfl)
        subst ha
        obtain rfl := Q_X1_ hb1_
        simp only [putSel, hb0_, hb1_, hb2_, hb3_, hb4_, hb5_, hb6_, hb7_, hb8_, hb9_, hb10_, if_true, Act.put, List.setIfInBounds_toArray, List.set_cons_zero, List.set_cons_succ]
        have BK226 := Aside0.mk Q_BK226
        clear Q_BK226
        have HB := Aside0.mk Q_HB
        clear Q_HB
        have HO269 := Aside0.mk (Q_HO269 hb1_)
        clear Q_HO269
        clear Q_HO272
        clear Q_HO275
        have HO278 := Aside0.mk (Q_HO278 hb4_)
        clear Q_HO278
        clear hall hb0_ hb1_ hb2_ hb3_ hb4_ hb5_ hb6_ hb7_ hb8_ hb9_ hb10_
        try go_wp2
        go_meet
        case rel => exact ⟨_, (t279), (t280), (by first | rfl | (simp; done) | (simp [*]; done)), (by first | rfl | (simp; done) | (simp [*]; done)), H', ⟨by have := HJ0.out; have := HJ17.out; have := HJ31.out; first | omega | exact Nat.le_refl _⟩, ⟨Bk BK226.out⟩, ⟨Bw HB.out⟩⟩
       case rest =>
        clear HC49
        (try clear c1); (try clear c2); (try clear p2); (try clear c8); (try clear c12); (try clear c13); (try clear c14); (try clear c24); (try clear hcz3_0); (try clear hcz3_1); (try clear hfz3_0); (try clear hfz3_1); (try clear p2)
        obtain ⟨kq, x8_48, x9_48, rfl, rfl, HA, HJ48, BK226, HB⟩ := hcut
        cases kq with
        | zero => exact absurd HA.out (by simp [examboardlaw43_awake.j3])
        | succ kj48 =>
         have H := HA.out
         clear HA
         simp only [examboardlaw43_awake.j3] at H
         have HC66 := Aside0.mk H
         clear H
         go_upto_region 6 with (fail)
         go_cut [11] (fun v11 wc => ∃ (kq : Nat) (x11_65 : Int), v11 = .int .i64 x11_65 ∧ Aside0 (examboardlaw43_awake.j4 kq x2_0 x3_0 x4_17 x5_17 x6_31 x7_31 x8_48 x9_48 x11_65 = some r) ∧ Aside0 (kq ≤ kj48) ∧ Aside0 (wc.heap[gb226]? = some (.cells #[.int .i64 1, .int .i64 2] 23 (0, 0))) ∧ Aside0 (Below w.heap.size w wc))
         case first =>
          have H := HC66.out
          clear HC66
          replace H := Option.bind_eq_some_iff.mp H
          obtain ⟨⟨t281, t282⟩, A670, H⟩ := H
          replace H : ((adjudicate_Score.f kj48 1 2 t281 t282 (([(([3] : List Int)), (([1] : List Int))] : List (List Int)))).bind fun bt294 => (examboardlaw43_awake.j4 kj48 x2_0 x3_0 x4_17 x5_17 x6_31 x7_31 x8_48 x9_48 bt294.2)) = some r := H
          have A67 := Aside0.mk A670
          clear A670
          obtain ⟨y285, hy285⟩ : ∃ y_ : List Int, y_ = (([3] : List Int)) := ⟨_, rfl⟩
          replace H : ((adjudicate_Score.f kj48 1 2 t281 t282 (([y285, (([1] : List Int))] : List (List Int)))).bind fun bt294 => (examboardlaw43_awake.j4 kj48 x2_0 x3_0 x4_17 x5_17 x6_31 x7_31 x8_48 x9_48 bt294.2)) = some r := by first | (rw [hy285]; with_reducible exact H) | (have H2_ := (Option.bind_some _ _).symm.trans H; rw [hy285]; with_reducible exact H2_) | (have H2_ := (Option.bind_some _ _).symm.trans H; with_reducible exact H2_) | with_reducible exact H | (rw [hy285]; exact H) | exact H
          have Ny285 := Aside0.mk hy285
          clear hy285
          obtain ⟨y288, hy288⟩ : ∃ y_ : List Int, y_ = (([1] : List Int)) := ⟨_, rfl⟩
          replace H : ((adjudicate_Score.f kj48 1 2 t281 t282 (([y285, y288] : List (List Int)))).bind fun bt294 => (examboardlaw43_awake.j4 kj48 x2_0 x3_0 x4_17 x5_17 x6_31 x7_31 x8_48 x9_48 bt294.2)) = some r := by first | (rw [hy288]; with_reducible exact H) | (have H2_ := (Option.bind_some _ _).symm.trans H; rw [hy288]; with_reducible exact H2_) | (have H2_ := (Option.bind_some _ _).symm.trans H; with_reducible exact H2_) | with_reducible exact H | (rw [hy288]; exact H) | exact H
          have Ny288 := Aside0.mk hy288
          clear hy288
          obtain ⟨y291, hy291⟩ : ∃ y_ : List (List Int), y_ = (([y285, y288] : List (List Int))) := ⟨_, rfl⟩
          replace H : ((adjudicate_Score.f kj48 1 2 t281 t282 y291).bind fun bt294 => (examboardlaw43_awake.j4 kj48 x2_0 x3_0 x4_17 x5_17 x6_31 x7_31 x8_48 x9_48 bt294.2)) = some r := by first | (rw [hy291]; with_reducible exact H) | (have H2_ := (Option.bind_some _ _).symm.trans H; rw [hy291]; with_reducible exact H2_) | (have H2_ := (Option.bind_some _ _).symm.trans H; with_reducible exact H2_) | with_reducible exact H | (rw [hy291]; exact H) | exact H
          have Ny291 := Aside0.mk hy291
          clear hy291
          replace H := Option.bind_eq_some_iff.mp H
          obtain ⟨⟨t294, t295⟩, A680, H⟩ := H
          replace H : (examboardlaw43_awake.j4 kj48 x2_0 x3_0 x4_17 x5_17 x6_31 x7_31 x8_48 x9_48 t295) = some r := H
          have A68 := Aside0.mk A680
          clear A680
          have H' := Aside0.mk H
          clear H
          try go_wp2
          have n0_ := Aside0.mk (blk_drew BK226.out)
          have n1_ := Aside0.mk (below_drew1 HB.out)
          clear BK226
          clear HB
          have BK226 := n0_
          have HB := n1_
          clear n0_ n1_
          refine start_ (n := 11) (S := fun w' => True) (ds := []) #[Z,Z,Z,Z,Z,Z,Z,Z,Z,Z,Z] (by kernel_rfl) rfl rfl trivial (fun hHeld => ?_); refine with_tabW examboardlaw43_awake.tab6 examboardlaw43_awake.bits6 (fun HT_ HW_ => ?_)
          generalize wc.drew = w69 at BK226 HB hHeld ⊢
          refine inv_at [0, 1, 2, 3, 4, 5, 6, 7, 8, 9, 10] (fun a0_ b a w' => ∃ (v283 : Value) (v286 : Value) (v289 : Value) (v292 : Value) (m1_ : Value), a = putSel a0_ b [(0, 50, .agg #[.int .i64 1, .int .i64 2]), (1, 51, m1_), (2, 52, v286), (3, 53, v289), (4, 54, v292), (5, 55, .tuple #[.int .i64 t294, .int .i64 t295]), (6, 49, .tuple #[.int .i64 t294, .int .i64 t295]), (7, 56, .int .i64 t294), (8, 57, .int .i64 t295), (9, 10, .int .i64 t294), (10, 11, .int .i64 t295)] ∧ (w'.heap[gb226]? = some (.cells #[.int .i64 1, .int .i64 2] 23 (0, 0))) ∧ (Below w.heap.size w w') ∧ (b 1 = true → Kd.R k59 59 w' w.heap.size (fun _ => True) v283 t282) ∧ (b 2 = true → b 4 = false → Kd.R (Kd.int .i64) 3 w' w.heap.size (fun _ => True) v286 y285) ∧ (b 3 = true → b 4 = false → Kd.R (Kd.int .i64) 3 w' w.heap.size (fun _ => True) v289 y288) ∧ (b 4 = true → Kd.N (Kd.slice 3 (Kd.int .i64)) 29 w' w.heap.size (fun k_ => k_ ≠ gb226) v292 y291) ∧ (b 1 = true → (m1_ : Value) = .agg #[.int .i64 t281, v283])) HT_.out HW_.out (by kernel_rfl) (by kernel_rfl) ?_ ?_ ?_
          ·
           exact ⟨.bool false, .bool false, .bool false, .bool false, .bool false, by simp only [putSel, Bool.false_eq_true, if_false], BK226.out, HB.out, fun h_ => absurd h_ (by decide), fun h_ => absurd h_ (by decide), fun h_ => absurd h_ (by decide), fun h_ => absurd h_ (by decide), fun h_ => absurd h_ (by decide)⟩
          ·
           skip
           clear BK226 HB
           refine steps_cons ?_ ?_
           ·
            rintro b a w' ⟨v283, v286, v289, v292, m1_, ha, Q_BK226, Q_HB, Q_HO284, Q_HO287, Q_HO290, Q_HO293, Q_X1_⟩ hb_ hon hoff
            refine ⟨_, rfl, fun K hK => ?_⟩
            have e1 : a.tmps[1]? = some (.pointer (some ⟨gb226, 0, none⟩)) := by rw [ha]; exact (putSel_off rfl).trans rfl
            replace ha := Aside0.mk ha
            have BK226 := Aside0.mk Q_BK226
            have HB := Aside0.mk Q_HB
            have hc0_ : w'.cell? ⟨gb226, 0, none⟩ = some (.int .i64 1) := (blk_cell BK226.out 0).trans rfl
            have hc1_ : w'.cell? ⟨gb226, 1, none⟩ = some (.int .i64 2) := (blk_cell BK226.out 1).trans rfl
            refine value_ (w1 := w') (v := .agg #[.int .i64 1, .int .i64 2]) (by rfl) rfl ?_ ?_
            ·
             go_simp
             (try simp only [i64_w])
             try rfl
            refine hK.out _ _ ⟨v283, v286, v289, v292, m1_, (by rw [ha.out]; exact putSel_upk 0 hb_ rfl rfl rfl), Q_BK226, Q_HB, Q_HO284, Q_HO287, Q_HO290, Q_HO293, Q_X1_⟩
           refine steps_cons ?_ ?_
           ·
            rintro b a w' ⟨v283, v286, v289, v292, m1_, ha, Q_BK226, Q_HB, Q_HO284, Q_HO287, Q_HO290, Q_HO293, Q_X1_⟩ hb_ hon hoff
            refine ⟨_, rfl, fun K hK => ?_⟩
            replace ha := Aside0.mk ha
            have BK226 := Aside0.mk Q_BK226
            have HB := Aside0.mk Q_HB
            refine goes_ Try.func24 (by kernel_rfl) rfl #[] (by rfl) rfl rfl (by first | (simp only [List.map_toArray, List.map_cons, List.map_nil, Act.eval, Array.getD_eq_getD_getElem?, Option.getD_some]; done) | (simp only [List.map_toArray, List.map_cons, List.map_nil, Act.eval, Array.getD_eq_getD_getElem?, Option.getD_some]; rfl)) ?_
            with_reducible refine (examboardlaw43_sample.calls  t281 t282 _ A67.out).mono ?_
            rintro e w70 ⟨v283, rfl, ho0, hb⟩
            refine ⟨_, rfl, ?_⟩
            have n0_ := Aside0.mk (Kd.R_lower ho0 (below_size (Bw HB.out)))
            have n1_ := Aside0.mk (blk_below (g := gb226) (o := .cells #[.int .i64 1, .int .i64 2] 23 (0, 0)) (Bk BK226.out) hb)
            have n2_ := Aside0.mk (below_step (Bw HB.out) hb)
            have z_HO287 := fun (h0_ : b 2 = true) (h1_ : b 4 = false) => (show Kd.R (Kd.int .i64) 3 w70 w.heap.size (fun _ => True) v286 y285 from by first | exact (Kd.R_below (Rk (Q_HO287 h0_ h1_)) hb) | exact Kd.R_mono (Kd.R_below (Rk (Q_HO287 h0_ h1_)) hb) (fun _ h_ => by first | trivial | exact h_ | exact h_.1))
            have z_HO290 := fun (h0_ : b 3 = true) (h1_ : b 4 = false) => (show Kd.R (Kd.int .i64) 3 w70 w.heap.size (fun _ => True) v289 y288 from by first | exact (Kd.R_below (Rk (Q_HO290 h0_ h1_)) hb) | exact Kd.R_mono (Kd.R_below (Rk (Q_HO290 h0_ h1_)) hb) (fun _ h_ => by first | trivial | exact h_ | exact h_.1))
            have z_HO293 := fun (h0_ : b 4 = true) => (show Kd.N (Kd.slice 3 (Kd.int .i64)) 29 w70 w.heap.size (fun k_ => k_ ≠ gb226) v292 y291 from by first | exact (Kd.N_elder' (by (with_reducible repeat (first | apply Kd.N_alloc | apply Kd.N_drewN | apply Kd.N_drew)); exact (Q_HO293 h0_)) (Kd.R_base ho0) hb) | exact Kd.N_mono (Kd.N_elder' (by (with_reducible repeat (first | apply Kd.N_alloc | apply Kd.N_drewN | apply Kd.N_drew)); exact (Q_HO293 h0_)) (Kd.R_base ho0) hb) (fun _ h_ => by first | trivial | exact h_ | exact h_.1))
            clear BK226
            clear HB
            have HO284 := n0_
            have BK226 := n1_
            have HB := n2_
            clear n0_ n1_ n2_
            (try clear hb)
            (try clear hb2)
            (try clear hk)
            (try clear hi)
            (try clear ho0)
            refine hK.out _ _ ⟨v283, v286, v289, v292, (.agg #[.int .i64 t281, v283]), (by rw [ha.out]; exact putSel_upk 1 hb_ rfl rfl rfl), (Bk BK226.out), (Bw HB.out), fun _ => (Rk HO284.out), z_HO287, z_HO290, z_HO293, fun _ => rfl⟩
           refine steps_cons ?_ ?_
           ·
            rintro b a w' ⟨v283, v286, v289, v292, m1_, ha, Q_BK226, Q_HB, Q_HO284, Q_HO287, Q_HO290, Q_HO293, Q_X1_⟩ hb_ hon hoff
            refine ⟨_, rfl, fun K hK => ?_⟩
            replace ha := Aside0.mk ha
            have BK226 := Aside0.mk Q_BK226
            have HB := Aside0.mk Q_HB
            refine Kd.R_lit_step (Kd.int .i64) _ 3 ?hg (N := 52) ?hd (xs := ([3] : List Int)) (inner := [.int .i64 3]) (ok := fun _ => True) (okp := fun _ => True) ?hr ?hp (fun _ hk => hk) trivial (Below.refl _ _) (Nat.le_refl _) (by simp) ?_; (case hd => rfl); (case hg => rfl); (case hr => first | (go_simp; done) | (go_simp; rfl)); (case hp => exact (Reps.one (show Kd.M (Kd.int .i64) _ _ _ 3 [.int .i64 3] from rfl) (Reps.none _ _)))
            intro v286 w70 ho71 hb hg_ hnew_
            clear hg_ hnew_
            (first | rw [← Ny285.out] at ho71 | (simp only [Int.reduceToNat] at ho71; rw [← Ny285.out] at ho71))
            have n0_ := Aside0.mk (Kd.R_lower ho71 (below_size (Bw HB.out)))
            have n1_ := Aside0.mk (blk_below (g := gb226) (o := .cells #[.int .i64 1, .int .i64 2] 23 (0, 0)) (Bk BK226.out) hb)
            have n2_ := Aside0.mk (below_step (Bw HB.out) hb)
            have z_HO284 := fun (h0_ : b 1 = true) => (show Kd.R k59 59 w70 w.heap.size (fun _ => True) v283 t282 from by first | exact (Kd.R_below (Rk (Q_HO284 h0_)) hb) | exact Kd.R_mono (Kd.R_below (Rk (Q_HO284 h0_)) hb) (fun _ h_ => by first | trivial | exact h_ | exact h_.1))
            have z_HO290 := fun (h0_ : b 3 = true) (h1_ : b 4 = false) => (show Kd.R (Kd.int .i64) 3 w70 w.heap.size (fun _ => True) v289 y288 from by first | exact (Kd.R_elder' (Rk (Q_HO290 h0_ h1_)) (Kd.R_base ho71) hb) | exact Kd.R_mono (Kd.R_elder' (Rk (Q_HO290 h0_ h1_)) (Kd.R_base ho71) hb) (fun _ h_ => by first | trivial | exact h_ | exact h_.1))
            clear BK226
            clear HB
            have HO287 := n0_
            have BK226 := n1_
            have HB := n2_
            clear n0_ n1_ n2_
            clear hb ho71
            refine hK.out _ _ ⟨v283, v286, v289, v292, m1_, (by rw [ha.out]; exact putSel_upk 2 hb_ rfl rfl rfl), (Bk BK226.out), (Bw HB.out), z_HO284, fun _ _ => (Rk HO287.out), z_HO290, fun h0_ => absurd ((hoff 4 (by kernel_rfl)).symm.trans h0_) (by decide), Q_X1_⟩
           refine steps_cons ?_ ?_
           ·
            rintro b a w' ⟨v283, v286, v289, v292, m1_, ha, Q_BK226, Q_HB, Q_HO284, Q_HO287, Q_HO290, Q_HO293, Q_X1_⟩ hb_ hon hoff
            refine ⟨_, rfl, fun K hK => ?_⟩
            replace ha := Aside0.mk ha
            have BK226 := Aside0.mk Q_BK226
            have HB := Aside0.mk Q_HB
            refine Kd.R_lit_step (Kd.int .i64) _ 3 ?hg (N := 53) ?hd (xs := ([1] : List Int)) (inner := [.int .i64 1]) (ok := fun _ => True) (okp := fun _ => True) ?hr ?hp (fun _ hk => hk) trivial (Below.refl _ _) (Nat.le_refl _) (by simp) ?_; (case hd => rfl); (case hg => rfl); (case hr => first | (go_simp; done) | (go_simp; rfl)); (case hp => exact (Reps.one (show Kd.M (Kd.int .i64) _ _ _ 1 [.int .i64 1] from rfl) (Reps.none _ _)))
            intro v289 w70 ho71 hb hg_ hnew_
            clear hg_ hnew_
            (first | rw [← Ny288.out] at ho71 | (simp only [Int.reduceToNat] at ho71; rw [← Ny288.out] at ho71))
            have n0_ := Aside0.mk (Kd.R_lower ho71 (below_size (Bw HB.out)))
            have n1_ := Aside0.mk (blk_below (g := gb226) (o := .cells #[.int .i64 1, .int .i64 2] 23 (0, 0)) (Bk BK226.out) hb)
            have n2_ := Aside0.mk (below_step (Bw HB.out) hb)
            have z_HO284 := fun (h0_ : b 1 = true) => (show Kd.R k59 59 w70 w.heap.size (fun _ => True) v283 t282 from by first | exact (Kd.R_below (Rk (Q_HO284 h0_)) hb) | exact Kd.R_mono (Kd.R_below (Rk (Q_HO284 h0_)) hb) (fun _ h_ => by first | trivial | exact h_ | exact h_.1))
            have z_HO287 := fun (h0_ : b 2 = true) (h1_ : b 4 = false) => (show Kd.R (Kd.int .i64) 3 w70 w.heap.size (fun _ => True) v286 y285 from by first | exact (Kd.R_elder' (Rk (Q_HO287 h0_ h1_)) (Kd.R_base ho71) hb) | exact Kd.R_mono (Kd.R_elder' (Rk (Q_HO287 h0_ h1_)) (Kd.R_base ho71) hb) (fun _ h_ => by first | trivial | exact h_ | exact h_.1))
            clear BK226
            clear HB
            have HO290 := n0_
            have BK226 := n1_
            have HB := n2_
            clear n0_ n1_ n2_
            clear hb ho71
            refine hK.out _ _ ⟨v283, v286, v289, v292, m1_, (by rw [ha.out]; exact putSel_upk 3 hb_ rfl rfl rfl), (Bk BK226.out), (Bw HB.out), z_HO284, z_HO287, fun _ _ => (Rk HO290.out), fun h0_ => absurd ((hoff 4 (by kernel_rfl)).symm.trans h0_) (by decide), Q_X1_⟩
           refine steps_cons ?_ ?_
           ·
            rintro b a w' ⟨v283, v286, v289, v292, m1_, ha, Q_BK226, Q_HB, Q_HO284, Q_HO287, Q_HO290, Q_HO293, Q_X1_⟩ hb_ hon hoff
            refine ⟨_, rfl, fun K hK => ?_⟩
            have e52 : a.tmps[52]? = some (v286) := by rw [ha]; exact putSel_on (e := (2, 52, v286)) 2 rfl rfl (hon 2 (by kernel_rfl)) rfl
            have e53 : a.tmps[53]? = some (v289) := by rw [ha]; exact putSel_on (e := (3, 53, v289)) 3 rfl rfl (hon 3 (by kernel_rfl)) rfl
            replace ha := Aside0.mk ha
            have BK226 := Aside0.mk Q_BK226
            have HB := Aside0.mk Q_HB
            have HO287 := Aside0.mk (Q_HO287 (hon 2 (by kernel_rfl)) hb_)
            have HO290 := Aside0.mk (Q_HO290 (hon 3 (by kernel_rfl)) hb_)
            obtain ⟨Ao75, co75, eo75⟩ := Kd.R_slice HO287.out
            (first | subst eo75 | (injection eo75 with f1_ f2_ f3_; have f4_ := f1_.symm; have f5_ := f3_.symm; clear f1_ f2_ f3_; subst f4_; subst f5_))
            obtain ⟨Ao76, co76, eo76⟩ := Kd.R_slice HO290.out
            (first | subst eo76 | (injection eo76 with f1_ f2_ f3_; have f4_ := f1_.symm; have f5_ := f3_.symm; clear f1_ f2_ f3_; subst f4_; subst f5_))
            refine Kd.N_lit_step (Kd.slice 3 (Kd.int .i64)) _ 29 ?hg (N' := 54) ?hd (xs := ([y285, y288] : List (List Int))) (inner := [.slice Ao75 y285.length co75, .slice Ao76 y288.length co76]) (ok := (fun k_ => k_ ≠ gb226)) (okp := (fun k_ => k_ ≠ gb226)) ?hr ?hp (fun _ hk => hk) ((show ∀ k_, w'.heap.size ≤ k_ → (fun k_ => k_ ≠ gb226) k_ from fun k_ hk => Kd.freshB (g := gb226) (o := .cells #[.int .i64 1, .int .i64 2] 23 (0, 0)) (Bk BK226.out) k_ hk) _ (Nat.le_refl _)) (Below.refl _ _) (Nat.le_refl _) (by simp) ?_; (case hd => rfl); (case hg => rfl); (case hr => first | (go_simp; done) | (go_simp; rfl)); (case hp => exact (Reps.one (show Kd.FK (Kd.slice 3 (Kd.int .i64)) _ _ y285 [.slice Ao75 y285.length co75] from (Kd.FK_slice_mk (Kd.R_reads' (Kd.R_mono (ok' := (fun k_ => k_ ≠ gb226)) (Kd.R_types (HO287.out) BK226.out (by decide)) (fun k_ hk => hk.2))).2.1 (Kd.R_F (Kd.R_mono (ok' := (fun k_ => k_ ≠ gb226)) (Kd.R_types (HO287.out) BK226.out (by decide)) (fun k_ hk => hk.2))))) (Reps.one (show Kd.FK (Kd.slice 3 (Kd.int .i64)) _ _ y288 [.slice Ao76 y288.length co76] from (Kd.FK_slice_mk (Kd.R_reads' (Kd.R_mono (ok' := (fun k_ => k_ ≠ gb226)) (Kd.R_types (HO290.out) BK226.out (by decide)) (fun k_ hk => hk.2))).2.1 (Kd.R_F (Kd.R_mono (ok' := (fun k_ => k_ ≠ gb226)) (Kd.R_types (HO290.out) BK226.out (by decide)) (fun k_ hk => hk.2))))) (Reps.none _ _))))
            intro v292 w77 ho78 hb hg_ hnew_
            clear hg_ hnew_
            (first | rw [← Ny291.out] at ho78 | (simp only [Int.reduceToNat] at ho78; rw [← Ny291.out] at ho78))
            have n0_ := Aside0.mk (Kd.N_lower ho78 (below_size (Bw HB.out)))
            have n1_ := Aside0.mk (blk_below (g := gb226) (o := .cells #[.int .i64 1, .int .i64 2] 23 (0, 0)) (Bk BK226.out) hb)
            have n2_ := Aside0.mk (below_step (Bw HB.out) hb)
            have z_HO284 := fun (h0_ : b 1 = true) => (show Kd.R k59 59 w77 w.heap.size (fun _ => True) v283 t282 from by first | exact (Kd.R_below (Rk (Q_HO284 h0_)) hb) | exact Kd.R_mono (Kd.R_below (Rk (Q_HO284 h0_)) hb) (fun _ h_ => by first | trivial | exact h_ | exact h_.1))
            clear BK226
            clear HB
            clear HO287
            clear HO290
            have HO293 := n0_
            have BK226 := n1_
            have HB := n2_
            clear n0_ n1_ n2_
            clear hb ho78
            refine hK.out _ _ ⟨v283, .slice Ao75 y285.length co75, .slice Ao76 y288.length co76, v292, m1_, (by rw [ha.out]; exact putSel_upk 4 hb_ rfl rfl rfl), (Bk BK226.out), (Bw HB.out), z_HO284, fun _ h1_ => absurd ((up_self b 4).symm.trans h1_) (by decide), fun _ h1_ => absurd ((up_self b 4).symm.trans h1_) (by decide), fun _ => (by (with_reducible repeat (first | apply Kd.N_alloc | apply Kd.N_drewN | apply Kd.N_drew)); exact HO293.out), Q_X1_⟩
           refine steps_cons ?_ ?_
           ·
            rintro b a w' ⟨v283, v286, v289, v292, m1_, ha, Q_BK226, Q_HB, Q_HO284, Q_HO287, Q_HO290, Q_HO293, Q_X1_⟩ hb_ hon hoff
            refine ⟨_, rfl, fun K hK => ?_⟩
            have e50 : a.tmps[50]? = some (.agg #[.int .i64 1, .int .i64 2]) := by rw [ha]; exact putSel_on (e := (0, 50, .agg #[.int .i64 1, .int .i64 2])) 0 rfl rfl (hon 0 (by kernel_rfl)) rfl
            have e51 : a.tmps[51]? = some (m1_) := by rw [ha]; exact putSel_on (e := (1, 51, m1_)) 1 rfl rfl (hon 1 (by kernel_rfl)) rfl
            rw [Q_X1_ (hon 1 (by kernel_rfl))] at e51
            have e54 : a.tmps[54]? = some (v292) := by rw [ha]; exact putSel_on (e := (4, 54, v292)) 4 rfl rfl (hon 4 (by kernel_rfl)) rfl
            replace ha := Aside0.mk ha
            have BK226 := Aside0.mk Q_BK226
            have HB := Aside0.mk Q_HB
            have HO284 := Aside0.mk (Q_HO284 (hon 1 (by kernel_rfl)))
            have HO293 := Aside0.mk (Q_HO293 (hon 4 (by kernel_rfl)))
            obtain ⟨Ao80, co80, eo80⟩ := Kd.R_slice HO284.out
            (first | subst eo80 | (injection eo80 with f1_ f2_ f3_; have f4_ := f1_.symm; have f5_ := f3_.symm; clear f1_ f2_ f3_; subst f4_; subst f5_))
            obtain ⟨Ao81, co81, eo81⟩ := Kd.N_slice HO293.out
            (first | subst eo81 | (injection eo81 with f1_ f2_ f3_; have f4_ := f1_.symm; have f5_ := f3_.symm; clear f1_ f2_ f3_; subst f4_; subst f5_))
            refine goes_ Try.func12 (by kernel_rfl) rfl #[.agg #[.int .i64 1, .int .i64 2], .agg #[.int .i64 t281, .slice Ao80 t282.length co80], .slice Ao81 y291.length co81] (by rfl) rfl rfl (by first | (simp only [List.map_toArray, List.map_cons, List.map_nil, Act.eval, Array.getD_eq_getD_getElem?, Option.getD_some, e50, e51, e54]; done) | (simp only [List.map_toArray, List.map_cons, List.map_nil, Act.eval, Array.getD_eq_getD_getElem?, Option.getD_some, e50, e51, e54]; rfl)) ?_
            with_reducible refine (adjudicate_Score.calls kj48 1 2 t281 _ _ t282 _ _ y291 t294 t295 _ ?side1 ?side2 ?side3 ?side4 A68.out).mono ?_
            (case side1 => exact Ck (Kd.R_reads' HO284.out).2.2)
            (case side2 => exact (Kd.R_reads' HO284.out).2.1)
            (case side3 => exact Ck (Kd.N_reads' HO293.out).2.2)
            (case side4 => exact (Kd.N_reads' HO293.out).2.1)
            rintro e w82 ⟨rfl, hb⟩
            refine ⟨_, rfl, ?_⟩
            have n0_ := Aside0.mk (Kd.R_below (Rk HO284.out) hb)
            have n1_ := Aside0.mk (Kd.N_below (by (with_reducible repeat (first | apply Kd.N_alloc | apply Kd.N_drewN | apply Kd.N_drew)); exact HO293.out) hb)
            have n2_ := Aside0.mk (blk_below (g := gb226) (o := .cells #[.int .i64 1, .int .i64 2] 23 (0, 0)) (Bk BK226.out) hb)
            have n3_ := Aside0.mk (below_step (Bw HB.out) hb)
            clear HO284
            clear HO293
            clear BK226
            clear HB
            have HO284 := n0_
            have HO293 := n1_
            have BK226 := n2_
            have HB := n3_
            clear n0_ n1_ n2_ n3_
            (try clear hb)
            (try clear hb2)
            (try clear hk)
            (try clear hi)
            refine hK.out _ _ ⟨.slice Ao80 t282.length co80, v286, v289, .slice Ao81 y291.length co81, m1_, (by rw [ha.out]; exact putSel_upk 5 hb_ rfl rfl rfl), (Bk BK226.out), (Bw HB.out), fun _ => (Rk HO284.out), fun _ h1_ => absurd ((hon 4 (by kernel_rfl)).symm.trans h1_) (by decide), fun _ h1_ => absurd ((hon 4 (by kernel_rfl)).symm.trans h1_) (by decide), fun _ => (by (with_reducible repeat (first | apply Kd.N_alloc | apply Kd.N_drewN | apply Kd.N_drew)); exact HO293.out), Q_X1_⟩
           refine steps_cons ?_ ?_
           ·
            rintro b a w' ⟨v283, v286, v289, v292, m1_, ha, Q_BK226, Q_HB, Q_HO284, Q_HO287, Q_HO290, Q_HO293, Q_X1_⟩ hb_ hon hoff
            refine ⟨_, rfl, fun K hK => ?_⟩
            have e55 : a.tmps[55]? = some (.tuple #[.int .i64 t294, .int .i64 t295]) := by rw [ha]; exact putSel_on (e := (5, 55, .tuple #[.int .i64 t294, .int .i64 t295])) 5 rfl rfl (hon 5 (by kernel_rfl)) rfl
            replace ha := Aside0.mk ha
            have BK226 := Aside0.mk Q_BK226
            have HB := Aside0.mk Q_HB
            have HO284 := Aside0.mk (Q_HO284 (hon 1 (by kernel_rfl)))
            have HO293 := Aside0.mk (Q_HO293 (hon 4 (by kernel_rfl)))
            refine value_ (w1 := w') (v := .tuple #[.int .i64 t294, .int .i64 t295]) (by rfl) rfl ?_ ?_
            ·
             go_simp
             (try simp only [i64_w])
             try rfl
            refine hK.out _ _ ⟨v283, v286, v289, v292, m1_, (by rw [ha.out]; exact putSel_upk 6 hb_ rfl rfl rfl), Q_BK226, Q_HB, Q_HO284, fun _ h1_ => absurd ((hon 4 (by kernel_rfl)).symm.trans h1_) (by decide), fun _ h1_ => absurd ((hon 4 (by kernel_rfl)).symm.trans h1_) (by decide), Q_HO293, Q_X1_⟩
           refine steps_cons ?_ ?_
           ·
            rintro b a w' ⟨v283, v286, v289, v292, m1_, ha, Q_BK226, Q_HB, Q_HO284, Q_HO287, Q_HO290, Q_HO293, Q_X1_⟩ hb_ hon hoff
            refine ⟨_, rfl, fun K hK => ?_⟩
            have e49 : a.tmps[49]? = some (.tuple #[.int .i64 t294, .int .i64 t295]) := by rw [ha]; exact putSel_on (e := (6, 49, .tuple #[.int .i64 t294, .int .i64 t295])) 6 rfl rfl (hon 6 (by kernel_rfl)) rfl
            replace ha := Aside0.mk ha
            have BK226 := Aside0.mk Q_BK226
            have HB := Aside0.mk Q_HB
            have HO284 := Aside0.mk (Q_HO284 (hon 1 (by kernel_rfl)))
            have HO293 := Aside0.mk (Q_HO293 (hon 4 (by kernel_rfl)))
            refine value_ (w1 := w') (v := .int .i64 t294) (by rfl) rfl ?_ ?_
            ·
             go_simp
             (try simp only [i64_w])
             try rfl
            refine hK.out _ _ ⟨v283, v286, v289, v292, m1_, (by rw [ha.out]; exact putSel_upk 7 hb_ rfl rfl rfl), Q_BK226, Q_HB, Q_HO284, fun _ h1_ => absurd ((hon 4 (by kernel_rfl)).symm.trans h1_) (by decide), fun _ h1_ => absurd ((hon 4 (by kernel_rfl)).symm.trans h1_) (by decide), Q_HO293, Q_X1_⟩
           refine steps_cons ?_ ?_
           ·
            rintro b a w' ⟨v283, v286, v289, v292, m1_, ha, Q_BK226, Q_HB, Q_HO284, Q_HO287, Q_HO290, Q_HO293, Q_X1_⟩ hb_ hon hoff
            refine ⟨_, rfl, fun K hK => ?_⟩
            have e49 : a.tmps[49]? = some (.tuple #[.int .i64 t294, .int .i64 t295]) := by rw [ha]; exact putSel_on (e := (6, 49, .tuple #[.int .i64 t294, .int .i64 t295])) 6 rfl rfl (hon 6 (by kernel_rfl)) rfl
            replace ha := Aside0.mk ha
            have BK226 := Aside0.mk Q_BK226
            have HB := Aside0.mk Q_HB
            have HO284 := Aside0.mk (Q_HO284 (hon 1 (by kernel_rfl)))
            have HO293 := Aside0.mk (Q_HO293 (hon 4 (by kernel_rfl)))
            refine value_ (w1 := w') (v := .int .i64 t295) (by rfl) rfl ?_ ?_
            ·
             go_simp
             (try simp only [i64_w])
             try rfl
            refine hK.out _ _ ⟨v283, v286, v289, v292, m1_, (by rw [ha.out]; exact putSel_upk 8 hb_ rfl rfl rfl), Q_BK226, Q_HB, Q_HO284, fun _ h1_ => absurd ((hon 4 (by kernel_rfl)).symm.trans h1_) (by decide), fun _ h1_ => absurd ((hon 4 (by kernel_rfl)).symm.trans h1_) (by decide), Q_HO293, Q_X1_⟩
           refine steps_cons ?_ ?_
           ·
            rintro b a w' ⟨v283, v286, v289, v292, m1_, ha, Q_BK226, Q_HB, Q_HO284, Q_HO287, Q_HO290, Q_HO293, Q_X1_⟩ hb_ hon hoff
            refine ⟨_, rfl, fun K hK => ?_⟩
            have e56 : a.tmps[56]? = some (.int .i64 t294) := by rw [ha]; exact putSel_on (e := (7, 56, .int .i64 t294)) 7 rfl rfl (hon 7 (by kernel_rfl)) rfl
            replace ha := Aside0.mk ha
            have BK226 := Aside0.mk Q_BK226
            have HB := Aside0.mk Q_HB
            have HO284 := Aside0.mk (Q_HO284 (hon 1 (by kernel_rfl)))
            have HO293 := Aside0.mk (Q_HO293 (hon 4 (by kernel_rfl)))
            refine value_ (w1 := w') (v := .int .i64 t294) (by rfl) rfl ?_ ?_
            ·
             go_simp
             (try simp only [i64_w])
             try rfl
            refine hK.out _ _ ⟨v283, v286, v289, v292, m1_, (by rw [ha.out]; exact putSel_upk 9 hb_ rfl rfl rfl), Q_BK226, Q_HB, Q_HO284, fun _ h1_ => absurd ((hon 4 (by kernel_rfl)).symm.trans h1_) (by decide), fun _ h1_ => absurd ((hon 4 (by kernel_rfl)).symm.trans h1_) (by decide), Q_HO293, Q_X1_⟩
           refine steps_cons ?_ ?_
           ·
            rintro b a w' ⟨v283, v286, v289, v292, m1_, ha, Q_BK226, Q_HB, Q_HO284, Q_HO287, Q_HO290, Q_HO293, Q_X1_⟩ hb_ hon hoff
            refine ⟨_, rfl, fun K hK => ?_⟩
            have e57 : a.tmps[57]? = some (.int .i64 t295) := by rw [ha]; exact putSel_on (e := (8, 57, .int .i64 t295)) 8 rfl rfl (hon 8 (by kernel_rfl)) rfl
            replace ha := Aside0.mk ha
            have BK226 := Aside0.mk Q_BK226
            have HB := Aside0.mk Q_HB
            have HO284 := Aside0.mk (Q_HO284 (hon 1 (by kernel_rfl)))
            have HO293 := Aside0.mk (Q_HO293 (hon 4 (by kernel_rfl)))
            refine value_ (w1 := w') (v := .int .i64 t295) (by rfl) rfl ?_ ?_
            ·
             go_simp
             (try simp only [i64_w])
             try rfl
            refine hK.out _ _ ⟨v283, v286, v289, v292, m1_, (by rw [ha.out]; exact putSel_upk 10 hb_ rfl rfl rfl), Q_BK226, Q_HB, Q_HO284, fun _ h1_ => absurd ((hon 4 (by kernel_rfl)).symm.trans h1_) (by decide), fun _ h1_ => absurd ((hon 4 (by kernel_rfl)).symm.trans h1_) (by decide), Q_HO293, Q_X1_⟩
           exact steps_nil
          rintro b a w82 hall ⟨v283, v286, v289, v292, m1_, ha, Q_BK226, Q_HB, Q_HO284, Q_HO287, Q_HO290, Q_HO293, Q_X1_⟩
          clear BK226 HB
          have hb0_ := hall 0 (by kernel_rfl)
          have hb1_ := hall 1 (by kernel_rfl)
          have hb2_ := hall 2 (by kernel_rfl)
          have hb3_ := hall 3 (by kernel_rfl)
          have hb4_ := hall 4 (by kernel_rfl)
          have hb5_ := hall 5 (by kernel_rfl)
          have hb6_ := hall 6 (by kernel_rfl)
          have hb7_ := hall 7 (by kernel_rfl)
          have hb8_ := hall 8 (by kernel_rfl)
          have hb9_ := hall 9 (by kernel_rfl)
          have hb10_ := hall 10 (by kernel_rfl)
          subst ha
          obtain rfl := Q_X1_ hb1_
          simp only [putSel, hb0_, hb1_, hb2_, hb3_, hb4_, hb5_, hb6_, hb7_, hb8_, hb9_, hb10_, if_true, Act.put, List.setIfInBounds_toArray, List.set_cons_zero, List.set_cons_succ]
          have BK226 := Aside0.mk Q_BK226
          clear Q_BK226
          have HB := Aside0.mk Q_HB
          clear Q_HB
          have HO284 := Aside0.mk (Q_HO284 hb1_)
          clear Q_HO284
          clear Q_HO287
          clear Q_HO290
          have HO293 := Aside0.mk (Q_HO293 hb4_)
          clear Q_HO293
          clear hall hb0_ hb1_ hb2_ hb3_ hb4_ hb5_ hb6_ hb7_ hb8_ hb9_ hb10_
          try go_wp2
          go_meet
          case rel => exact ⟨_, (t295), (by first | rfl | (simp; done) | (simp [*]; done)), H', ⟨by have := HJ0.out; have := HJ17.out; have := HJ31.out; have := HJ48.out; first | omega | exact Nat.le_refl _⟩, ⟨Bk BK226.out⟩, ⟨Bw HB.out⟩⟩
         case rest =>
          clear HC66
          (try clear c1); (try clear c2); (try clear p2); (try clear c8); (try clear c12); (try clear c13); (try clear c14); (try clear c24); (try clear hcz3_0); (try clear hcz3_1); (try clear hfz3_0); (try clear hfz3_1); (try clear p2)
          obtain ⟨kq, x11_65, rfl, HA, HJ65, BK226, HB⟩ := hcut
          cases kq with
          | zero => exact absurd HA.out (by simp [examboardlaw43_awake.j4])
          | succ kj65 =>
           have H := HA.out
           clear HA
           simp only [examboardlaw43_awake.j4] at H
           have HC83 := Aside0.mk H
           clear H
           go_upto_region 7 with (fail)
           go_cut [12, 13] (fun v12 v13 wc => ∃ (kq : Nat) (x12_82 : List (List Int)) (x13_82 : Int), v13 = .int .i64 x13_82 ∧ Aside0 (examboardlaw43_awake.j5 kq x2_0 x3_0 x4_17 x5_17 x6_31 x7_31 x8_48 x9_48 x11_65 x12_82 x13_82 = some r) ∧ Aside0 (kq ≤ kj65) ∧ Aside0 (Kd.N (Kd.slice 3 (Kd.int .i64)) 29 wc w.heap.size (fun k_ => k_ ≠ gb226) v12 x12_82) ∧ Aside0 (wc.heap[gb226]? = some (.cells #[.int .i64 1, .int .i64 2] 23 (0, 0))) ∧ Aside0 (Below w.heap.size w wc))
           case first =>
            have H := HC83.out
            clear HC83
            obtain ⟨y296, hy296⟩ : ∃ y_ : List Int, y_ = (([3] : List Int)) := ⟨_, rfl⟩
            replace H : ((adjudicate_Pick.f kj65 (([(⟨1, 7, y296⟩ : S31), (⟨1, 8, (([4] : List Int))⟩ : S31)] : List (S31))) 8).bind fun bt305 => (examboardlaw43_awake.j5 kj65 x2_0 x3_0 x4_17 x5_17 x6_31 x7_31 x8_48 x9_48 x11_65 bt305.1 bt305.2)) = some r := by first | (rw [hy296]; with_reducible exact H) | (have H2_ := (Option.bind_some _ _).symm.trans H; rw [hy296]; with_reducible exact H2_) | (have H2_ := (Option.bind_some _ _).symm.trans H; with_reducible exact H2_) | with_reducible exact H | (rw [hy296]; exact H) | exact H
            have Ny296 := Aside0.mk hy296
            clear hy296
            obtain ⟨y299, hy299⟩ : ∃ y_ : List Int, y_ = (([4] : List Int)) := ⟨_, rfl⟩
            replace H : ((adjudicate_Pick.f kj65 (([(⟨1, 7, y296⟩ : S31), (⟨1, 8, y299⟩ : S31)] : List (S31))) 8).bind fun bt305 => (examboardlaw43_awake.j5 kj65 x2_0 x3_0 x4_17 x5_17 x6_31 x7_31 x8_48 x9_48 x11_65 bt305.1 bt305.2)) = some r := by first | (rw [hy299]; with_reducible exact H) | (have H2_ := (Option.bind_some _ _).symm.trans H; rw [hy299]; with_reducible exact H2_) | (have H2_ := (Option.bind_some _ _).symm.trans H; with_reducible exact H2_) | with_reducible exact H | (rw [hy299]; exact H) | exact H
            have Ny299 := Aside0.mk hy299
            clear hy299
            obtain ⟨y302, hy302⟩ : ∃ y_ : List (S31), y_ = (([(⟨1, 7, y296⟩ : S31), (⟨1, 8, y299⟩ : S31)] : List (S31))) := ⟨_, rfl⟩
            replace H : ((adjudicate_Pick.f kj65 y302 8).bind fun bt305 => (examboardlaw43_awake.j5 kj65 x2_0 x3_0 x4_17 x5_17 x6_31 x7_31 x8_48 x9_48 x11_65 bt305.1 bt305.2)) = some r := by first | (rw [hy302]; with_reducible exact H) | (have H2_ := (Option.bind_some _ _).symm.trans H; rw [hy302]; with_reducible exact H2_) | (have H2_ := (Option.bind_some _ _).symm.trans H; with_reducible exact H2_) | with_reducible exact H | (rw [hy302]; exact H) | exact H
            have Ny302 := Aside0.mk hy302
            clear hy302
            replace H := Option.bind_eq_some_iff.mp H
            obtain ⟨⟨t305, t306⟩, A840, H⟩ := H
            replace H : (examboardlaw43_awake.j5 kj65 x2_0 x3_0 x4_17 x5_17 x6_31 x7_31 x8_48 x9_48 x11_65 t305 t306) = some r := H
            have A84 := Aside0.mk A840
            clear A840
            have H' := Aside0.mk H
            clear H
            go_wp2_with (first | ((with_reducible refine gate_dst (N := 59) rfl ?_); (try (refine gate_guard (by rfl) ?_; dsimp only)); refine Kd.R_lit (Kd.int .i64) _ 3 ?hg (N := 59) ?hd (xs := ([3] : List Int)) (inner := [.int .i64 3]) (ok := fun _ => True) (okp := fun _ => True) ?hr ?hp (fun _ hk => hk) trivial (Below.refl _ _) (Nat.le_refl _) (by simp) ?_; (case hd => rfl); (case hg => rfl); (case hr => first | (go_simp; done) | (go_simp; rfl)); (case hp => exact (Reps.one (show Kd.M (Kd.int .i64) _ _ _ 3 [.int .i64 3] from rfl) (Reps.none _ _))); intro v297 w85 ho86 hb hg_ hnew_; clear hg_ hnew_; (first | rw [← Ny296.out] at ho86 | (simp only [Int.reduceToNat] at ho86; rw [← Ny296.out] at ho86)); have n0_ := Aside0.mk (Kd.R_lower ho86 (below_size (Bw HB.out))); have n1_ := Aside0.mk (blk_below (g := gb226) (o := .cells #[.int .i64 1, .int .i64 2] 23 (0, 0)) (Bk BK226.out) hb); have n2_ := Aside0.mk (below_step (Bw HB.out) hb); clear BK226; clear HB; have HO298 := n0_; have BK226 := n1_; have HB := n2_; clear n0_ n1_ n2_; clear hb ho86; obtain ⟨Ao87, co87, eo87⟩ := Kd.R_slice HO298.out; subst eo87) | ((with_reducible refine gate_dst (N := 61) rfl ?_); (try (refine gate_guard (by rfl) ?_; dsimp only)); refine Kd.R_lit (Kd.int .i64) _ 3 ?hg (N := 61) ?hd (xs := ([4] : List Int)) (inner := [.int .i64 4]) (ok := fun _ => True) (okp := fun _ => True) ?hr ?hp (fun _ hk => hk) trivial (Below.refl _ _) (Nat.le_refl _) (by simp) ?_; (case hd => rfl); (case hg => rfl); (case hr => first | (go_simp; done) | (go_simp; rfl)); (case hp => exact (Reps.one (show Kd.M (Kd.int .i64) _ _ _ 4 [.int .i64 4] from rfl) (Reps.none _ _))); intro v300 w88 ho89 hb hg_ hnew_; clear hg_ hnew_; (first | rw [← Ny299.out] at ho89 | (simp only [Int.reduceToNat] at ho89; rw [← Ny299.out] at ho89)); have n0_ := Aside0.mk (Kd.R_elder' (Rk HO298.out) (Kd.R_base ho89) hb); have n1_ := Aside0.mk (Kd.R_lower (Kd.R_new' ho89 (Kd.R_lt (Rk HO298.out))) (below_size (Bw HB.out))); have n2_ := Aside0.mk (blk_below (g := gb226) (o := .cells #[.int .i64 1, .int .i64 2] 23 (0, 0)) (Bk BK226.out) hb); have n3_ := Aside0.mk (below_step (Bw HB.out) hb); clear HO298; clear BK226; clear HB; have HO298 := n0_; have HO301 := n1_; have BK226 := n2_; have HB := n3_; clear n0_ n1_ n2_ n3_; clear hb ho89; obtain ⟨Ao90, co90, eo90⟩ := Kd.R_slice HO301.out; subst eo90) | ((with_reducible refine gate_dst (N := 63) rfl ?_); (try (refine gate_guard (by rfl) ?_; dsimp only)); refine Kd.N_lit k31 _ 31 ?hg (N' := 63) ?hd (xs := ([(⟨1, 7, y296⟩ : S31), (⟨1, 8, y299⟩ : S31)] : List (S31))) (inner := [.int .i64 1, .int .i64 7, .slice Ao87 y296.length co87, .int .i64 1, .int .i64 8, .slice Ao90 y299.length co90]) (ok := (fun k_ => k_ ≠ gb226)) (okp := (fun k_ => k_ ≠ gb226)) ?hr ?hp (fun _ hk => hk) ((show ∀ k_, w88.heap.size ≤ k_ → (fun k_ => k_ ≠ gb226) k_ from fun k_ hk => Kd.freshB (g := gb226) (o := .cells #[.int .i64 1, .int .i64 2] 23 (0, 0)) (Bk BK226.out) k_ hk) _ (Nat.le_refl _)) (Below.refl _ _) (Nat.le_refl _) (by simp) ?_; (case hd => rfl); (case hg => rfl); (case hr => first | (go_simp; done) | (go_simp; rfl)); (case hp => exact (Reps.c3 (show Kd.FK k31 _ _ (⟨1, 7, y296⟩ : S31) [.int .i64 1, .int .i64 7, .slice Ao87 y296.length co87] from (k31_mkF _ _ (⟨1, 7, y296⟩ : S31) (Kd.R_reads' (Kd.R_mono (ok' := (fun k_ => k_ ≠ gb226)) (Kd.R_types (HO298.out) BK226.out (by decide)) (fun k_ hk => hk.2))).2.1 (Kd.R_F (Kd.R_mono (ok' := (fun k_ => k_ ≠ gb226)) (Kd.R_types (HO298.out) BK226.out (by decide)) (fun k_ hk => hk.2))))) (Reps.c3 (show Kd.FK k31 _ _ (⟨1, 8, y299⟩ : S31) [.int .i64 1, .int .i64 8, .slice Ao90 y299.length co90] from (k31_mkF _ _ (⟨1, 8, y299⟩ : S31) (Kd.R_reads' (Kd.R_mono (ok' := (fun k_ => k_ ≠ gb226)) (Kd.R_types (HO301.out) BK226.out (by decide)) (fun k_ hk => hk.2))).2.1 (Kd.R_F (Kd.R_mono (ok' := (fun k_ => k_ ≠ gb226)) (Kd.R_types (HO301.out) BK226.out (by decide)) (fun k_ hk => hk.2))))) (Reps.none _ _)))); intro v303 w91 ho92 hb hg_ hnew_; clear hg_ hnew_; (first | rw [← Ny302.out] at ho92 | (simp only [Int.reduceToNat] at ho92; rw [← Ny302.out] at ho92)); have n0_ := Aside0.mk (Kd.N_lower ho92 (below_size (Bw HB.out))); have n1_ := Aside0.mk (blk_below (g := gb226) (o := .cells #[.int .i64 1, .int .i64 2] 23 (0, 0)) (Bk BK226.out) hb); have n2_ := Aside0.mk (below_step (Bw HB.out) hb); clear BK226; clear HB; clear HO298; clear HO301; have HO304 := n0_; have BK226 := n1_; have HB := n2_; clear n0_ n1_ n2_; clear hb ho92; obtain ⟨Ao93, co93, eo93⟩ := Kd.N_slice HO304.out; subst eo93) | ((with_reducible refine gate_callee (f := 9) rfl ?_); refine goesL_ (some 64) rfl rfl Try.func9 (by kernel_rfl) rfl #[.slice Ao93 y302.length co93, .int .i64 8] rfl (by (try simp only [List.map_toArray, List.map_cons, List.map_nil]); first | done | rfl | (simp only [List.length_drop, List.length_take]; rfl)) ?_; (with_reducible refine (adjudicate_Pick.calls kj65 _ _ y302 8 t305 t306 _ ?side1 ?side2 A84.out).mono ?_); (case side1 => exact Ck (Kd.N_reads' HO304.out).2.2); (case side2 => exact (Kd.N_reads' HO304.out).2.1); rintro e w94 ⟨v307, rfl, ho0, hb⟩; refine ⟨_, rfl, ?_⟩; have n0_ := Aside0.mk (Kd.N_elder' (by (with_reducible repeat (first | apply Kd.N_alloc | apply Kd.N_drewN | apply Kd.N_drew)); exact HO304.out) (by first | exact Kd.N_base ho0 | exact Kd.S_base ho0) hb); have n1_ := Aside0.mk (Kd.N_lower (Kd.N_mono (ok' := fun k_ => some k_ ≠ (.slice Ao93 y302.length co93 : Value).ownBlock ∧ k_ ≠ gb226) (Kd.S_N (Kd.S_bound ho0)) (fun k_ hk_ => ⟨(Kd.fresh' (Kd.N_lt (by (with_reducible repeat (first | apply Kd.N_alloc | apply Kd.N_drewN | apply Kd.N_drew)); exact HO304.out)) k_ hk_.2.1), (Kd.freshB (g := gb226) (o := .cells #[.int .i64 1, .int .i64 2] 23 (0, 0)) (Bk BK226.out) k_ hk_.2.1)⟩)) (below_size (Bw HB.out))); have n2_ := Aside0.mk (blk_below (g := gb226) (o := .cells #[.int .i64 1, .int .i64 2] 23 (0, 0)) (Bk BK226.out) hb); have n3_ := Aside0.mk (below_step (Bw HB.out) hb); clear HO304; clear BK226; clear HB; have HO304 := n0_; have HO308 := n1_; have BK226 := n2_; have HB := n3_; clear n0_ n1_ n2_ n3_; (try clear hb); (try clear hb2); (try clear hk); (try clear hi); (try clear ho0)))
            go_meet
            case rel => exact ⟨_, (t305), (t306), (by first | rfl | (simp; done) | (simp [*]; done)), H', ⟨by have := HJ0.out; have := HJ17.out; have := HJ31.out; have := HJ48.out; have := HJ65.out; first | omega | exact Nat.le_refl _⟩, ⟨by (with_reducible repeat (first | apply Kd.N_alloc | apply Kd.N_drewN | apply Kd.N_drew)); exact Kd.N_mono HO308.out (fun _ hk => hk.2)⟩, ⟨Bk BK226.out⟩, ⟨Bw HB.out⟩⟩
           case rest =>
            clear HC83
            (try clear c1); (try clear c2); (try clear p2); (try clear c3); (try clear c8); (try clear c9); (try clear c12); (try clear c13); (try clear c14); (try clear c24); (try clear hcz3_0); (try clear hcz3_1); (try clear hfz3_0); (try clear hfz3_1); (try clear p2)
            obtain ⟨kq, x12_82, x13_82, rfl, HA, HJ82, HO_12, BK226, HB⟩ := hcut
            cases kq with
            | zero => exact absurd HA.out (by simp [examboardlaw43_awake.j5])
            | succ kj82 =>
             have H := HA.out
             clear HA
             simp only [examboardlaw43_awake.j5] at H
             have HC95 := Aside0.mk H
             clear H
             go_upto_region 8 with (fail)
             go_cut [110] (fun v110 wc => ∃ (kq : Nat) (x110_94 : Bool), v110 = .bool x110_94 ∧ Aside0 (examboardlaw43_awake.j6 kq x110_94 = some r) ∧ Aside0 (kq ≤ kj82) ∧ Aside0 (wc.heap[gb226]? = some (.cells #[.int .i64 1, .int .i64 2] 23 (0, 0))) ∧ Aside0 (Below w.heap.size w wc))
             case first =>
              have H := HC95.out
              clear HC95
              by_cases c96 : x2_0 = true
              ·
               subst c96
               have H1 : (if x4_17 = true then (examboardlaw43_awake.j6 kj82 true) else (if x3_0 = 0 then (if x5_17 = 0 then (if x6_31 = 1 then (if x7_31 = 0 then (if x8_48 = 5 then (if x9_48 = 0 then (if x11_65 = 22 then ((examboardlaw43_equal.f kj82 x12_82 (([(([4] : List Int))] : List (List Int)))).bind fun t315 => (if t315 = true then (examboardlaw43_awake.j6 kj82 (x13_82 != 0)) else (examboardlaw43_awake.j6 kj82 true))) else (examboardlaw43_awake.j6 kj82 true)) else (examboardlaw43_awake.j6 kj82 true)) else (examboardlaw43_awake.j6 kj82 true)) else (examboardlaw43_awake.j6 kj82 true)) else (examboardlaw43_awake.j6 kj82 true)) else (examboardlaw43_awake.j6 kj82 true)) else (examboardlaw43_awake.j6 kj82 true))) = some r := by rw [if_pos rfl] at H; exact H
               clear H
               have H := H1
               clear H1
               by_cases c97 : x4_17 = true
               ·
                subst c97
                have H1 : (examboardlaw43_awake.j6 kj82 true) = some r := by rw [if_pos rfl] at H; exact H
                clear H
                have H := H1
                clear H1
                have H' := Aside0.mk H
                clear H
                go_wp2
                go_meet
                case rel => exact ⟨_, (true), (by first | rfl | (simp; done) | (simp [*]; done)), H', ⟨by have := HJ0.out; have := HJ17.out; have := HJ31.out; have := HJ48.out; have := HJ65.out; have := HJ82.out; first | omega | exact Nat.le_refl _⟩, ⟨Bk BK226.out⟩, ⟨Bw HB.out⟩⟩
               ·
                replace c97 := Bool.eq_false_iff.mpr c97
                subst c97
                have H1 : (if x3_0 = 0 then (if x5_17 = 0 then (if x6_31 = 1 then (if x7_31 = 0 then (if x8_48 = 5 then (if x9_48 = 0 then (if x11_65 = 22 then ((examboardlaw43_equal.f kj82 x12_82 (([(([4] : List Int))] : List (List Int)))).bind fun t315 => (if t315 = true then (examboardlaw43_awake.j6 kj82 (x13_82 != 0)) else (examboardlaw43_awake.j6 kj82 true))) else (examboardlaw43_awake.j6 kj82 true)) else (examboardlaw43_awake.j6 kj82 true)) else (examboardlaw43_awake.j6 kj82 true)) else (examboardlaw43_awake.j6 kj82 true)) else (examboardlaw43_awake.j6 kj82 true)) else (examboardlaw43_awake.j6 kj82 true)) else (examboardlaw43_awake.j6 kj82 true)) = some r := by rw [if_neg (show ¬ (false = true) by decide)] at H; exact H
                clear H
                have H := H1
                clear H1
                by_cases c98 : x3_0 = 0
                ·
                 rw [if_pos c98] at H
                 have c98b0 : (x3_0 == 0) = true := beq_iff_eq.mpr c98
                 have c98b1 : (x3_0 != 0) = false := bne_eq_false_iff_eq.mpr c98
                 clear c98
                 (first | rw [c98b0] | (simp only [i64_w, i32_w]; rw [c98b0]) | skip)
                 by_cases c99 : x5_17 = 0
                 ·
                  rw [if_pos c99] at H
                  have c99b0 : (x5_17 == 0) = true := beq_iff_eq.mpr c99
                  have c99b1 : (x5_17 != 0) = false := bne_eq_false_iff_eq.mpr c99
                  clear c99
                  by_cases c100 : x6_31 = 1
                  ·
                   rw [if_pos c100] at H
                   have c100b0 : (x6_31 == 1) = true := beq_iff_eq.mpr c100
                   have c100b1 : (x6_31 != 1) = false := bne_eq_false_iff_eq.mpr c100
                   clear c100
                   by_cases c101 : x7_31 = 0
                   ·
                    rw [if_pos c101] at H
                    have c101b0 : (x7_31 == 0) = true := beq_iff_eq.mpr c101
                    have c101b1 : (x7_31 != 0) = false := bne_eq_false_iff_eq.mpr c101
                    clear c101
                    by_cases c102 : x8_48 = 5
                    ·
                     rw [if_pos c102] at H
                     have c102b0 : (x8_48 == 5) = true := beq_iff_eq.mpr c102
                     have c102b1 : (x8_48 != 5) = false := bne_eq_false_iff_eq.mpr c102
                     clear c102
                     by_cases c103 : x9_48 = 0
                     ·
                      rw [if_pos c103] at H
                      have c103b0 : (x9_48 == 0) = true := beq_iff_eq.mpr c103
                      have c103b1 : (x9_48 != 0) = false := bne_eq_false_iff_eq.mpr c103
                      clear c103
                      by_cases c104 : x11_65 = 22
                      ·
                       rw [if_pos c104] at H
                       have c104b0 : (x11_65 == 22) = true := beq_iff_eq.mpr c104
                       have c104b1 : (x11_65 != 22) = false := bne_eq_false_iff_eq.mpr c104
                       clear c104
                       obtain ⟨y309, hy309⟩ : ∃ y_ : List Int, y_ = (([4] : List Int)) := ⟨_, rfl⟩
                       replace H : ((examboardlaw43_equal.f kj82 x12_82 (([y309] : List (List Int)))).bind fun t315 => (if t315 = true then (examboardlaw43_awake.j6 kj82 (x13_82 != 0)) else (examboardlaw43_awake.j6 kj82 true))) = some r := by first | (rw [hy309]; with_reducible exact H) | (have H2_ := (Option.bind_some _ _).symm.trans H; rw [hy309]; with_reducible exact H2_) | (have H2_ := (Option.bind_some _ _).symm.trans H; with_reducible exact H2_) | with_reducible exact H | (rw [hy309]; exact H) | exact H
                       have Ny309 := Aside0.mk hy309
                       clear hy309
                       obtain ⟨y312, hy312⟩ : ∃ y_ : List (List Int), y_ = (([y309] : List (List Int))) := ⟨_, rfl⟩
                       replace H : ((examboardlaw43_equal.f kj82 x12_82 y312).bind fun t315 => (if t315 = true then (examboardlaw43_awake.j6 kj82 (x13_82 != 0)) else (examboardlaw43_awake.j6 kj82 true))) = some r := by first | (rw [hy312]; with_reducible exact H) | (have H2_ := (Option.bind_some _ _).symm.trans H; rw [hy312]; with_reducible exact H2_) | (have H2_ := (Option.bind_some _ _).symm.trans H; with_reducible exact H2_) | with_reducible exact H | (rw [hy312]; exact H) | exact H
                       have Ny312 := Aside0.mk hy312
                       clear hy312
                       replace H := Option.bind_eq_some_iff.mp H
                       obtain ⟨t315, A1050, H⟩ := H
                       replace H : (if t315 = true then (examboardlaw43_awake.j6 kj82 (x13_82 != 0)) else (examboardlaw43_awake.j6 kj82 true)) = some r := H
                       have A105 := Aside0.mk A1050
                       clear A1050
                       by_cases c106 : t315 = true
                       ·
                        subst c106
                        have H1 : (examboardlaw43_awake.j6 kj82 (x13_82 != 0)) = some r := by rw [if_pos rfl] at H; exact H
                        clear H
                        have H := H1
                        clear H1
                        have H' := Aside0.mk H
                        clear H
                        go_wp2_with (first | ((with_reducible refine gate_dst (N := 102) rfl ?_); (try (refine gate_guard (by rfl) ?_; dsimp only)); refine Kd.R_lit (Kd.int .i64) _ 3 ?hg (N := 102) ?hd (xs := ([4] : List Int)) (inner := [.int .i64 4]) (ok := fun _ => True) (okp := fun _ => True) ?hr ?hp (fun _ hk => hk) trivial (Below.refl _ _) (Nat.le_refl _) (by simp) ?_; (case hd => rfl); (case hg => rfl); (case hr => first | (go_simp; done) | (go_simp; rfl)); (case hp => exact (Reps.one (show Kd.M (Kd.int .i64) _ _ _ 4 [.int .i64 4] from rfl) (Reps.none _ _))); intro v310 w107 ho108 hb hg_ hnew_; clear hg_ hnew_; (first | rw [← Ny309.out] at ho108 | (simp only [Int.reduceToNat] at ho108; rw [← Ny309.out] at ho108)); have n0_ := Aside0.mk (Kd.N_elder' (by (with_reducible repeat (first | apply Kd.N_alloc | apply Kd.N_drewN | apply Kd.N_drew)); exact HO_12.out) (Kd.R_base ho108) hb); have n1_ := Aside0.mk (Kd.R_lower ho108 (below_size (Bw HB.out))); have n2_ := Aside0.mk (blk_below (g := gb226) (o := .cells #[.int .i64 1, .int .i64 2] 23 (0, 0)) (Bk BK226.out) hb); have n3_ := Aside0.mk (below_step (Bw HB.out) hb); clear HO_12; clear BK226; clear HB; have HO_12 := n0_; have HO311 := n1_; have BK226 := n2_; have HB := n3_; clear n0_ n1_ n2_ n3_; clear hb ho108; obtain ⟨Ao109, co109, eo109⟩ := Kd.R_slice HO311.out; subst eo109) | ((with_reducible refine gate_dst (N := 103) rfl ?_); (try (refine gate_guard (by rfl) ?_; dsimp only)); refine Kd.N_lit (Kd.slice 3 (Kd.int .i64)) _ 29 ?hg (N' := 103) ?hd (xs := ([y309] : List (List Int))) (inner := [.slice Ao109 y309.length co109]) (ok := (fun k_ => some k_ ≠ (u12 : Value).ownBlock ∧ k_ ≠ gb226)) (okp := (fun k_ => some k_ ≠ (u12 : Value).ownBlock ∧ k_ ≠ gb226)) ?hr ?hp (fun _ hk => hk) ((show ∀ k_, w107.heap.size ≤ k_ → (fun k_ => some k_ ≠ (u12 : Value).ownBlock ∧ k_ ≠ gb226) k_ from fun k_ hk => ⟨Kd.fresh' (Kd.N_lt (by (with_reducible repeat (first | apply Kd.N_alloc | apply Kd.N_drewN | apply Kd.N_drew)); exact HO_12.out)) k_ hk, Kd.freshB (g := gb226) (o := .cells #[.int .i64 1, .int .i64 2] 23 (0, 0)) (Bk BK226.out) k_ hk⟩) _ (Nat.le_refl _)) (Below.refl _ _) (Nat.le_refl _) (by simp) ?_; (case hd => rfl); (case hg => rfl); (case hr => first | (go_simp; done) | (go_simp; rfl)); (case hp => exact (Reps.one (show Kd.FK (Kd.slice 3 (Kd.int .i64)) _ _ y309 [.slice Ao109 y309.length co109] from (Kd.FK_slice_mk (Kd.R_reads' (Kd.R_mono (ok' := (fun k_ => some k_ ≠ (u12 : Value).ownBlock ∧ k_ ≠ gb226)) (Kd.R_types (Kd.R_apart' (HO311.out) (Kd.N_typed HO_12.out) (by decide)) BK226.out (by decide)) (fun k_ hk => ⟨hk.1.2, hk.2⟩))).2.1 (Kd.R_F (Kd.R_mono (ok' := (fun k_ => some k_ ≠ (u12 : Value).ownBlock ∧ k_ ≠ gb226)) (Kd.R_types (Kd.R_apart' (HO311.out) (Kd.N_typed HO_12.out) (by decide)) BK226.out (by decide)) (fun k_ hk => ⟨hk.1.2, hk.2⟩))))) (Reps.none _ _))); intro v313 w110 ho111 hb hg_ hnew_; clear hg_ hnew_; (first | rw [← Ny312.out] at ho111 | (simp only [Int.reduceToNat] at ho111; rw [← Ny312.out] at ho111)); have n0_ := Aside0.mk (Kd.N_elder' (by (with_reducible repeat (first | apply Kd.N_alloc | apply Kd.N_drewN | apply Kd.N_drew)); exact HO_12.out) (by first | exact Kd.N_base ho111 | exact Kd.S_base ho111) hb); have n1_ := Aside0.mk (Kd.N_lower ho111 (below_size (Bw HB.out))); have n2_ := Aside0.mk (blk_below (g := gb226) (o := .cells #[.int .i64 1, .int .i64 2] 23 (0, 0)) (Bk BK226.out) hb); have n3_ := Aside0.mk (below_step (Bw HB.out) hb); clear HO_12; clear BK226; clear HB; clear HO311; have HO_12 := n0_; have HO314 := n1_; have BK226 := n2_; have HB := n3_; clear n0_ n1_ n2_ n3_; clear hb ho111; obtain ⟨Ao112, co112, eo112⟩ := Kd.N_slice HO_12.out; subst eo112; obtain ⟨Ao113, co113, eo113⟩ := Kd.N_slice HO314.out; subst eo113) | (go_at_call 11; (with_reducible refine (examboardlaw43_equal.calls kj82 _ _ x12_82 _ _ y312 true _ ?side1 ?side2 ?side3 ?side4 A105.out).mono ?_); (case side1 => exact Ck (Kd.N_reads' HO_12.out).2.2); (case side2 => exact (Kd.N_reads' HO_12.out).2.1); (case side3 => exact Ck (Kd.N_reads' HO314.out).2.2); (case side4 => exact (Kd.N_reads' HO314.out).2.1); rintro e w' ⟨rfl, ⟨nd, rfl⟩⟩))
                        go_meet
                        case rel => exact ⟨_, ((x13_82 != 0)), (by first | rfl | (simp; done) | (simp [*]; done)), H', ⟨by have := HJ0.out; have := HJ17.out; have := HJ31.out; have := HJ48.out; have := HJ65.out; have := HJ82.out; first | omega | exact Nat.le_refl _⟩, ⟨Bk BK226.out⟩, ⟨Bw HB.out⟩⟩
                       ·
                        replace c106 := Bool.eq_false_iff.mpr c106
                        subst c106
                        have H1 : (examboardlaw43_awake.j6 kj82 true) = some r := by rw [if_neg (show ¬ (false = true) by decide)] at H; exact H
                        clear H
                        have H := H1
                        clear H1
                        have H' := Aside0.mk H
                        clear H
                        go_wp2_with (first | ((with_reducible refine gate_dst (N := 102) rfl ?_); (try (refine gate_guard (by rfl) ?_; dsimp only)); refine Kd.R_lit (Kd.int .i64) _ 3 ?hg (N := 102) ?hd (xs := ([4] : List Int)) (inner := [.int .i64 4]) (ok := fun _ => True) (okp := fun _ => True) ?hr ?hp (fun _ hk => hk) trivial (Below.refl _ _) (Nat.le_refl _) (by simp) ?_; (case hd => rfl); (case hg => rfl); (case hr => first | (go_simp; done) | (go_simp; rfl)); (case hp => exact (Reps.one (show Kd.M (Kd.int .i64) _ _ _ 4 [.int .i64 4] from rfl) (Reps.none _ _))); intro v310 w114 ho115 hb hg_ hnew_; clear hg_ hnew_; (first | rw [← Ny309.out] at ho115 | (simp only [Int.reduceToNat] at ho115; rw [← Ny309.out] at ho115)); have n0_ := Aside0.mk (Kd.N_elder' (by (with_reducible repeat (first | apply Kd.N_alloc | apply Kd.N_drewN | apply Kd.N_drew)); exact HO_12.out) (Kd.R_base ho115) hb); have n1_ := Aside0.mk (Kd.R_lower ho115 (below_size (Bw HB.out))); have n2_ := Aside0.mk (blk_below (g := gb226) (o := .cells #[.int .i64 1, .int .i64 2] 23 (0, 0)) (Bk BK226.out) hb); have n3_ := Aside0.mk (below_step (Bw HB.out) hb); clear HO_12; clear BK226; clear HB; have HO_12 := n0_; have HO311 := n1_; have BK226 := n2_; have HB := n3_; clear n0_ n1_ n2_ n3_; clear hb ho115; obtain ⟨Ao116, co116, eo116⟩ := Kd.R_slice HO311.out; subst eo116) | ((with_reducible refine gate_dst (N := 103) rfl ?_); (try (refine gate_guard (by rfl) ?_; dsimp only)); refine Kd.N_lit (Kd.slice 3 (Kd.int .i64)) _ 29 ?hg (N' := 103) ?hd (xs := ([y309] : List (List Int))) (inner := [.slice Ao116 y309.length co116]) (ok := (fun k_ => some k_ ≠ (u12 : Value).ownBlock ∧ k_ ≠ gb226)) (okp := (fun k_ => some k_ ≠ (u12 : Value).ownBlock ∧ k_ ≠ gb226)) ?hr ?hp (fun _ hk => hk) ((show ∀ k_, w114.heap.size ≤ k_ → (fun k_ => some k_ ≠ (u12 : Value).ownBlock ∧ k_ ≠ gb226) k_ from fun k_ hk => ⟨Kd.fresh' (Kd.N_lt (by (with_reducible repeat (first | apply Kd.N_alloc | apply Kd.N_drewN | apply Kd.N_drew)); exact HO_12.out)) k_ hk, Kd.freshB (g := gb226) (o := .cells #[.int .i64 1, .int .i64 2] 23 (0, 0)) (Bk BK226.out) k_ hk⟩) _ (Nat.le_refl _)) (Below.refl _ _) (Nat.le_refl _) (by simp) ?_; (case hd => rfl); (case hg => rfl); (case hr => first | (go_simp; done) | (go_simp; rfl)); (case hp => exact (Reps.one (show Kd.FK (Kd.slice 3 (Kd.int .i64)) _ _ y309 [.slice Ao116 y309.length co116] from (Kd.FK_slice_mk (Kd.R_reads' (Kd.R_mono (ok' := (fun k_ => some k_ ≠ (u12 : Value).ownBlock ∧ k_ ≠ gb226)) (Kd.R_types (Kd.R_apart' (HO311.out) (Kd.N_typed HO_12.out) (by decide)) BK226.out (by decide)) (fun k_ hk => ⟨hk.1.2, hk.2⟩))).2.1 (Kd.R_F (Kd.R_mono (ok' := (fun k_ => some k_ ≠ (u12 : Value).ownBlock ∧ k_ ≠ gb226)) (Kd.R_types (Kd.R_apart' (HO311.out) (Kd.N_typed HO_12.out) (by decide)) BK226.out (by decide)) (fun k_ hk => ⟨hk.1.2, hk.2⟩))))) (Reps.none _ _))); intro v313 w117 ho118 hb hg_ hnew_; clear hg_ hnew_; (first | rw [← Ny312.out] at ho118 | (simp only [Int.reduceToNat] at ho118; rw [← Ny312.out] at ho118)); have n0_ := Aside0.mk (Kd.N_elder' (by (with_reducible repeat (first | apply Kd.N_alloc | apply Kd.N_drewN | apply Kd.N_drew)); exact HO_12.out) (by first | exact Kd.N_base ho118 | exact Kd.S_base ho118) hb); have n1_ := Aside0.mk (Kd.N_lower ho118 (below_size (Bw HB.out))); have n2_ := Aside0.mk (blk_below (g := gb226) (o := .cells #[.int .i64 1, .int .i64 2] 23 (0, 0)) (Bk BK226.out) hb); have n3_ := Aside0.mk (below_step (Bw HB.out) hb); clear HO_12; clear BK226; clear HB; clear HO311; have HO_12 := n0_; have HO314 := n1_; have BK226 := n2_; have HB := n3_; clear n0_ n1_ n2_ n3_; clear hb ho118; obtain ⟨Ao119, co119, eo119⟩ := Kd.N_slice HO_12.out; subst eo119; obtain ⟨Ao120, co120, eo120⟩ := Kd.N_slice HO314.out; subst eo120) | (go_at_call 11; (with_reducible refine (examboardlaw43_equal.calls kj82 _ _ x12_82 _ _ y312 false _ ?side1 ?side2 ?side3 ?side4 A105.out).mono ?_); (case side1 => exact Ck (Kd.N_reads' HO_12.out).2.2); (case side2 => exact (Kd.N_reads' HO_12.out).2.1); (case side3 => exact Ck (Kd.N_reads' HO314.out).2.2); (case side4 => exact (Kd.N_reads' HO314.out).2.1); rintro e w' ⟨rfl, ⟨nd, rfl⟩⟩))
                        go_meet
                        case rel => exact ⟨_, (true), (by first | rfl | (simp; done) | (simp [*]; done)), H', ⟨by have := HJ0.out; have := HJ17.out; have := HJ31.out; have := HJ48.out; have := HJ65.out; have := HJ82.out; first | omega | exact Nat.le_refl _⟩, ⟨Bk BK226.out⟩, ⟨Bw HB.out⟩⟩
                      ·
                       rw [if_neg c104] at H
                       have c104b0 : (x11_65 == 22) = false := beq_eq_false_iff_ne.mpr c104
                       have c104b1 : (x11_65 != 22) = true := bne_iff_ne.mpr c104
                       have H' := Aside0.mk H
                       clear H
                       go_wp2
                       go_meet
                       case rel => exact ⟨_, (true), (by first | rfl | (simp; done) | (simp [*]; done)), H', ⟨by have := HJ0.out; have := HJ17.out; have := HJ31.out; have := HJ48.out; have := HJ65.out; have := HJ82.out; first | omega | exact Nat.le_refl _⟩, ⟨Bk BK226.out⟩, ⟨Bw HB.out⟩⟩
                     ·
                      rw [if_neg c103] at H
                      have c103b0 : (x9_48 == 0) = false := beq_eq_false_iff_ne.mpr c103
                      have c103b1 : (x9_48 != 0) = true := bne_iff_ne.mpr c103
                      have H' := Aside0.mk H
                      clear H
                      go_wp2
                      go_meet
                      case rel => exact ⟨_, (true), (by first | rfl | (simp; done) | (simp [*]; done)), H', ⟨by have := HJ0.out; have := HJ17.out; have := HJ31.out; have := HJ48.out; have := HJ65.out; have := HJ82.out; first | omega | exact Nat.le_refl _⟩, ⟨Bk BK226.out⟩, ⟨Bw HB.out⟩⟩
                    ·
                     rw [if_neg c102] at H
                     have c102b0 : (x8_48 == 5) = false := beq_eq_false_iff_ne.mpr c102
                     have c102b1 : (x8_48 != 5) = true := bne_iff_ne.mpr c102
                     have H' := Aside0.mk H
                     clear H
                     go_wp2
                     go_meet
                     case rel => exact ⟨_, (true), (by first | rfl | (simp; done) | (simp [*]; done)), H', ⟨by have := HJ0.out; have := HJ17.out; have := HJ31.out; have := HJ48.out; have := HJ65.out; have := HJ82.out; first | omega | exact Nat.le_refl _⟩, ⟨Bk BK226.out⟩, ⟨Bw HB.out⟩⟩
                   ·
                    rw [if_neg c101] at H
                    have c101b0 : (x7_31 == 0) = false := beq_eq_false_iff_ne.mpr c101
                    have c101b1 : (x7_31 != 0) = true := bne_iff_ne.mpr c101
                    have H' := Aside0.mk H
                    clear H
                    go_wp2
                    go_meet
                    case rel => exact ⟨_, (true), (by first | rfl | (simp; done) | (simp [*]; done)), H', ⟨by have := HJ0.out; have := HJ17.out; have := HJ31.out; have := HJ48.out; have := HJ65.out; have := HJ82.out; first | omega | exact Nat.le_refl _⟩, ⟨Bk BK226.out⟩, ⟨Bw HB.out⟩⟩
                  ·
                   rw [if_neg c100] at H
                   have c100b0 : (x6_31 == 1) = false := beq_eq_false_iff_ne.mpr c100
                   have c100b1 : (x6_31 != 1) = true := bne_iff_ne.mpr c100
                   have H' := Aside0.mk H
                   clear H
                   go_wp2
                   go_meet
                   case rel => exact ⟨_, (true), (by first | rfl | (simp; done) | (simp [*]; done)), H', ⟨by have := HJ0.out; have := HJ17.out; have := HJ31.out; have := HJ48.out; have := HJ65.out; have := HJ82.out; first | omega | exact Nat.le_refl _⟩, ⟨Bk BK226.out⟩, ⟨Bw HB.out⟩⟩
                 ·
                  rw [if_neg c99] at H
                  have c99b0 : (x5_17 == 0) = false := beq_eq_false_iff_ne.mpr c99
                  have c99b1 : (x5_17 != 0) = true := bne_iff_ne.mpr c99
                  have H' := Aside0.mk H
                  clear H
                  go_wp2
                  go_meet
                  case rel => exact ⟨_, (true), (by first | rfl | (simp; done) | (simp [*]; done)), H', ⟨by have := HJ0.out; have := HJ17.out; have := HJ31.out; have := HJ48.out; have := HJ65.out; have := HJ82.out; first | omega | exact Nat.le_refl _⟩, ⟨Bk BK226.out⟩, ⟨Bw HB.out⟩⟩
                ·
                 rw [if_neg c98] at H
                 have c98b0 : (x3_0 == 0) = false := beq_eq_false_iff_ne.mpr c98
                 have c98b1 : (x3_0 != 0) = true := bne_iff_ne.mpr c98
                 (first | rw [c98b0] | (simp only [i64_w, i32_w]; rw [c98b0]) | skip)
                 have H' := Aside0.mk H
                 clear H
                 go_wp2
                 go_meet
                 case rel => exact ⟨_, (true), (by first | rfl | (simp; done) | (simp [*]; done)), H', ⟨by have := HJ0.out; have := HJ17.out; have := HJ31.out; have := HJ48.out; have := HJ65.out; have := HJ82.out; first | omega | exact Nat.le_refl _⟩, ⟨Bk BK226.out⟩, ⟨Bw HB.out⟩⟩
              ·
               replace c96 := Bool.eq_false_iff.mpr c96
               subst c96
               have H1 : (examboardlaw43_awake.j6 kj82 true) = some r := by rw [if_neg (show ¬ (false = true) by decide)] at H; exact H
               clear H
               have H := H1
               clear H1
               have H' := Aside0.mk H
               clear H
               go_wp2
               go_meet
               case rel => exact ⟨_, (true), (by first | rfl | (simp; done) | (simp [*]; done)), H', ⟨by have := HJ0.out; have := HJ17.out; have := HJ31.out; have := HJ48.out; have := HJ65.out; have := HJ82.out; first | omega | exact Nat.le_refl _⟩, ⟨Bk BK226.out⟩, ⟨Bw HB.out⟩⟩
             case rest =>
              clear HC95
              (try clear c1); (try clear c2); (try clear p2); (try clear c3); (try clear c8); (try clear c9); (try clear c10); (try clear c12); (try clear c13); (try clear c14); (try clear c24); (try clear c96); (try clear c97); (try clear c98); (try clear c98b0); (try clear c98b1); (try clear c99); (try clear c99b0); (try clear c99b1); (try clear c100); (try clear c100b0); (try clear c100b1); (try clear c101); (try clear c101b0); (try clear c101b1); (try clear c102); (try clear c102b0); (try clear c102b1); (try clear c103); (try clear c103b0); (try clear c103b1); (try clear c104); (try clear c104b0); (try clear c104b1); (try clear c106); (try clear hcz3_0); (try clear hcz3_1); (try clear hfz3_0); (try clear hfz3_1); (try clear p2)
              obtain ⟨kq, x110_94, rfl, HA, HJ94, BK226, HB⟩ := hcut
              cases kq with
              | zero => exact absurd HA.out (by simp [examboardlaw43_awake.j6])
              | succ kj94 =>
               have H := HA.out
               clear HA
               simp only [examboardlaw43_awake.j6] at H
               by_cases c121 : x110_94 = true
               ·
                subst c121
                have H1 : (some false) = some r := by rw [if_pos rfl] at H; exact H
                clear H
                have H := H1
                clear H1
                obtain rfl := Option.some.inj H
                go_wp2
                go_ret
                exact ⟨Es, Bw HB.out⟩
               ·
                replace c121 := Bool.eq_false_iff.mpr c121
                subst c121
                have H1 : ((examboardlaw43_scored.f kj94 1 1 4 2 4).bind fun t316 => (if t316 = true then ((examboardlaw43_scored.f kj94 2 1 4 2 3).bind fun t317 => (if t317 = true then ((examboardlaw43_scored.f kj94 3 1 4 2 4).bind fun t318 => (if t318 = true then ((examboardlaw43_scored.f kj94 2 0 4 2 2).bind fun t319 => (some t319)) else (some false))) else (some false))) else (some false))) = some r := by rw [if_neg (show ¬ (false = true) by decide)] at H; exact H
                clear H
                have H := H1
                clear H1
                replace H := Option.bind_eq_some_iff.mp H
                obtain ⟨t316, A1220, H⟩ := H
                replace H : (if t316 = true then ((examboardlaw43_scored.f kj94 2 1 4 2 3).bind fun t317 => (if t317 = true then ((examboardlaw43_scored.f kj94 3 1 4 2 4).bind fun t318 => (if t318 = true then ((examboardlaw43_scored.f kj94 2 0 4 2 2).bind fun t319 => (some t319)) else (some false))) else (some false))) else (some false)) = some r := H
                have A122 := Aside0.mk A1220
                clear A1220
                by_cases c123 : t316 = true
                ·
                 subst c123
                 have H1 : ((examboardlaw43_scored.f kj94 2 1 4 2 3).bind fun t317 => (if t317 = true then ((examboardlaw43_scored.f kj94 3 1 4 2 4).bind fun t318 => (if t318 = true then ((examboardlaw43_scored.f kj94 2 0 4 2 2).bind fun t319 => (some t319)) else (some false))) else (some false))) = some r := by rw [if_pos rfl] at H; exact H
                 clear H
                 have H := H1
                 clear H1
                 replace H := Option.bind_eq_some_iff.mp H
                 obtain ⟨t317, A1240, H⟩ := H
                 replace H : (if t317 = true then ((examboardlaw43_scored.f kj94 3 1 4 2 4).bind fun t318 => (if t318 = true then ((examboardlaw43_scored.f kj94 2 0 4 2 2).bind fun t319 => (some t319)) else (some false))) else (some false)) = some r := H
                 have A124 := Aside0.mk A1240
                 clear A1240
                 by_cases c125 : t317 = true
                 ·
                  subst c125
                  have H1 : ((examboardlaw43_scored.f kj94 3 1 4 2 4).bind fun t318 => (if t318 = true then ((examboardlaw43_scored.f kj94 2 0 4 2 2).bind fun t319 => (some t319)) else (some false))) = some r := by rw [if_pos rfl] at H; exact H
                  clear H
                  have H := H1
                  clear H1
                  replace H := Option.bind_eq_some_iff.mp H
                  obtain ⟨t318, A1260, H⟩ := H
                  replace H : (if t318 = true then ((examboardlaw43_scored.f kj94 2 0 4 2 2).bind fun t319 => (some t319)) else (some false)) = some r := H
                  have A126 := Aside0.mk A1260
                  clear A1260
                  by_cases c127 : t318 = true
                  ·
                   subst c127
                   have H1 : ((examboardlaw43_scored.f kj94 2 0 4 2 2).bind fun t319 => (some t319)) = some r := by rw [if_pos rfl] at H; exact H
                   clear H
                   have H := H1
                   clear H1
                   replace H := Option.bind_eq_some_iff.mp H
                   obtain ⟨t319, A1280, H⟩ := H
                   replace H : (some t319) = some r := H
                   have A128 := Aside0.mk A1280
                   clear A1280
                   obtain rfl := Option.some.inj H
                   go_wp2_with (first | ((with_reducible refine gate_callee (f := 25) rfl ?_); refine goesL_ (some 111) rfl rfl Try.func25 (by kernel_rfl) rfl #[.int .i64 1, .int .i64 1, .int .i64 4, .int .i64 2, .int .i64 4] rfl (by (try simp only [List.map_toArray, List.map_cons, List.map_nil]); first | done | rfl | (simp only [List.length_drop, List.length_take]; rfl)) ?_; (with_reducible refine (examboardlaw43_scored.calls kj94 1 1 4 2 4 true _ A122.out).mono ?_); rintro e w129 ⟨rfl, hb⟩; refine ⟨_, rfl, ?_⟩; have n0_ := Aside0.mk (blk_below (g := gb226) (o := .cells #[.int .i64 1, .int .i64 2] 23 (0, 0)) (Bk BK226.out) hb); have n1_ := Aside0.mk (below_step (Bw HB.out) hb); clear BK226; clear HB; have BK226 := n0_; have HB := n1_; clear n0_ n1_; (try clear hb); (try clear hb2); (try clear hk); (try clear hi)) | (go_at_call 25; (with_reducible refine (examboardlaw43_scored.calls kj94 2 1 4 2 3 true _ A124.out).mono ?_); rintro e w130 ⟨rfl, hb⟩; have n0_ := Aside0.mk (blk_below (g := gb226) (o := .cells #[.int .i64 1, .int .i64 2] 23 (0, 0)) (Bk BK226.out) hb); have n1_ := Aside0.mk (below_step (Bw HB.out) hb); clear BK226; clear HB; have BK226 := n0_; have HB := n1_; clear n0_ n1_; (try clear hb); (try clear hb2); (try clear hk); (try clear hi)) | (go_at_call 25; (with_reducible refine (examboardlaw43_scored.calls kj94 3 1 4 2 4 true _ A126.out).mono ?_); rintro e w131 ⟨rfl, hb⟩; have n0_ := Aside0.mk (blk_below (g := gb226) (o := .cells #[.int .i64 1, .int .i64 2] 23 (0, 0)) (Bk BK226.out) hb); have n1_ := Aside0.mk (below_step (Bw HB.out) hb); clear BK226; clear HB; have BK226 := n0_; have HB := n1_; clear n0_ n1_; (try clear hb); (try clear hb2); (try clear hk); (try clear hi)) | (go_at_call 25; (with_reducible refine (examboardlaw43_scored.calls kj94 2 0 4 2 2 t319 _ A128.out).mono ?_); rintro e w132 ⟨rfl, hb⟩; have n0_ := Aside0.mk (blk_below (g := gb226) (o := .cells #[.int .i64 1, .int .i64 2] 23 (0, 0)) (Bk BK226.out) hb); have n1_ := Aside0.mk (below_step (Bw HB.out) hb); clear BK226; clear HB; have BK226 := n0_; have HB := n1_; clear n0_ n1_; (try clear hb); (try clear hb2); (try clear hk); (try clear hi)))
                   go_ret
                   exact ⟨Es, Bw HB.out⟩
                  ·
                   replace c127 := Bool.eq_false_iff.mpr c127
                   subst c127
                   have H1 : (some false) = some r := by rw [if_neg (show ¬ (false = true) by decide)] at H; exact H
                   clear H
                   have H := H1
                   clear H1
                   obtain rfl := Option.some.inj H
                   go_wp2_with (first | ((with_reducible refine gate_callee (f := 25) rfl ?_); refine goesL_ (some 111) rfl rfl Try.func25 (by kernel_rfl) rfl #[.int .i64 1, .int .i64 1, .int .i64 4, .int .i64 2, .int .i64 4] rfl (by (try simp only [List.map_toArray, List.map_cons, List.map_nil]); first | done | rfl | (simp only [List.length_drop, List.length_take]; rfl)) ?_; (with_reducible refine (examboardlaw43_scored.calls kj94 1 1 4 2 4 true _ A122.out).mono ?_); rintro e w133 ⟨rfl, hb⟩; refine ⟨_, rfl, ?_⟩; have n0_ := Aside0.mk (blk_below (g := gb226) (o := .cells #[.int .i64 1, .int .i64 2] 23 (0, 0)) (Bk BK226.out) hb); have n1_ := Aside0.mk (below_step (Bw HB.out) hb); clear BK226; clear HB; have BK226 := n0_; have HB := n1_; clear n0_ n1_; (try clear hb); (try clear hb2); (try clear hk); (try clear hi)) | (go_at_call 25; (with_reducible refine (examboardlaw43_scored.calls kj94 2 1 4 2 3 true _ A124.out).mono ?_); rintro e w134 ⟨rfl, hb⟩; have n0_ := Aside0.mk (blk_below (g := gb226) (o := .cells #[.int .i64 1, .int .i64 2] 23 (0, 0)) (Bk BK226.out) hb); have n1_ := Aside0.mk (below_step (Bw HB.out) hb); clear BK226; clear HB; have BK226 := n0_; have HB := n1_; clear n0_ n1_; (try clear hb); (try clear hb2); (try clear hk); (try clear hi)) | (go_at_call 25; (with_reducible refine (examboardlaw43_scored.calls kj94 3 1 4 2 4 false _ A126.out).mono ?_); rintro e w135 ⟨rfl, hb⟩; have n0_ := Aside0.mk (blk_below (g := gb226) (o := .cells #[.int .i64 1, .int .i64 2] 23 (0, 0)) (Bk BK226.out) hb); have n1_ := Aside0.mk (below_step (Bw HB.out) hb); clear BK226; clear HB; have BK226 := n0_; have HB := n1_; clear n0_ n1_; (try clear hb); (try clear hb2); (try clear hk); (try clear hi)))
                   go_ret
                   exact ⟨Es, Bw HB.out⟩
                 ·
                  replace c125 := Bool.eq_false_iff.mpr c125
                  subst c125
                  have H1 : (some false) = some r := by rw [if_neg (show ¬ (false = true) by decide)] at H; exact H
                  clear H
                  have H := H1
                  clear H1
                  obtain rfl := Option.some.inj H
                  go_wp2_with (first | ((with_reducible refine gate_callee (f := 25) rfl ?_); refine goesL_ (some 111) rfl rfl Try.func25 (by kernel_rfl) rfl #[.int .i64 1, .int .i64 1, .int .i64 4, .int .i64 2, .int .i64 4] rfl (by (try simp only [List.map_toArray, List.map_cons, List.map_nil]); first | done | rfl | (simp only [List.length_drop, List.length_take]; rfl)) ?_; (with_reducible refine (examboardlaw43_scored.calls kj94 1 1 4 2 4 true _ A122.out).mono ?_); rintro e w136 ⟨rfl, hb⟩; refine ⟨_, rfl, ?_⟩; have n0_ := Aside0.mk (blk_below (g := gb226) (o := .cells #[.int .i64 1, .int .i64 2] 23 (0, 0)) (Bk BK226.out) hb); have n1_ := Aside0.mk (below_step (Bw HB.out) hb); clear BK226; clear HB; have BK226 := n0_; have HB := n1_; clear n0_ n1_; (try clear hb); (try clear hb2); (try clear hk); (try clear hi)) | (go_at_call 25; (with_reducible refine (examboardlaw43_scored.calls kj94 2 1 4 2 3 false _ A124.out).mono ?_); rintro e w137 ⟨rfl, hb⟩; have n0_ := Aside0.mk (blk_below (g := gb226) (o := .cells #[.int .i64 1, .int .i64 2] 23 (0, 0)) (Bk BK226.out) hb); have n1_ := Aside0.mk (below_step (Bw HB.out) hb); clear BK226; clear HB; have BK226 := n0_; have HB := n1_; clear n0_ n1_; (try clear hb); (try clear hb2); (try clear hk); (try clear hi)))
                  go_ret
                  exact ⟨Es, Bw HB.out⟩
                ·
                 replace c123 := Bool.eq_false_iff.mpr c123
                 subst c123
                 have H1 : (some false) = some r := by rw [if_neg (show ¬ (false = true) by decide)] at H; exact H
                 clear H
                 have H := H1
                 clear H1
                 obtain rfl := Option.some.inj H
                 go_wp2_with (first | ((with_reducible refine gate_callee (f := 25) rfl ?_); refine goesL_ (some 111) rfl rfl Try.func25 (by kernel_rfl) rfl #[.int .i64 1, .int .i64 1, .int .i64 4, .int .i64 2, .int .i64 4] rfl (by (try simp only [List.map_toArray, List.map_cons, List.map_nil]); first | done | rfl | (simp only [List.length_drop, List.length_take]; rfl)) ?_; (with_reducible refine (examboardlaw43_scored.calls kj94 1 1 4 2 4 false _ A122.out).mono ?_); rintro e w138 ⟨rfl, hb⟩; refine ⟨_, rfl, ?_⟩; have n0_ := Aside0.mk (blk_below (g := gb226) (o := .cells #[.int .i64 1, .int .i64 2] 23 (0, 0)) (Bk BK226.out) hb); have n1_ := Aside0.mk (below_step (Bw HB.out) hb); clear BK226; clear HB; have BK226 := n0_; have HB := n1_; clear n0_ n1_; (try clear hb); (try clear hb2); (try clear hk); (try clear hi)))
                 go_ret
                 exact ⟨Es, Bw HB.out⟩

end Go.Proofs.Ytkajeeikpffioaa.All
