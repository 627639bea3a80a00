-- Written by myprint.py for this claim: functions of the program as Lean functions, with the proofs that the calls come to them.
import Derived.Test.YthicnegcpafkkaaAllx0
namespace Go.Proofs.Ythicnegcpafkkaa.All
open Go.RowKit Go.Proofs.YthicnegcpafkkaaW.PrintWords Go.Proofs.YthicnegcpafkkaaW.PrintLast Go.Proofs.YthicnegcpafkkaaW.PrintMore
attribute [local go_sem] max2_int min2_int max_two min_two max_three min_three max_four min_four   -- for this text's walks alone
set_option linter.unusedVariables false
set_option linter.unusedSimpArgs false

/-! ### zeroone_bits: function 29 -/
/-- a number that is no bit -/
def noBit (x : Int) : Bool := !(x == 0) && !(x == 1)
set_option maxHeartbeats 8000000 in
theorem bits_1 (x : Int) (r : Bool) (w : World) (h : noBit x = r) : Calls Try.prog 42 #[.int .i64 x] w fun e w' => e = .returned (.bool r) ∧ Drawn0 w w' := by
  subst h
  by_cases h0 : x = 0
  · subst h0
    go_enter Try.func42, Try.ntmps42
    go_wp2
    go_ret
    exact ⟨rfl, by repeat (first | exact Drawn0.refl _ | apply Drawn0.step)⟩
  · have h0a : (x != 0) = true := by simpa using h0
    have h0b : (x == 0) = false := by simpa using h0
    have e1 : noBit x = (x != 1) := by simp [noBit, h0b, bne]
    rw [e1]
    clear h0 h0b e1
    go_enter Try.func42, Try.ntmps42
    go_wp2
    go_ret
    exact ⟨rfl, by repeat (first | exact Drawn0.refl _ | apply Drawn0.step)⟩
set_option maxHeartbeats 8000000 in
set_option maxRecDepth 100000 in
theorem indexFunc_bits (A0 : Option Addr) (c0 : Nat) (l0 : List Int) (w : World) (hr0 : Kd.C (Kd.int .i64) w A0 l0.length l0) (hm : l0.length < 9223372036854775807) :
    Calls Try.prog 48 #[.slice A0 l0.length c0, .func (.func 42) #[] #[]] w fun e w' => (∃ r : Int, e = .returned (.int .i64 r) ∧ Aside0 (decide (r ≥ 0) = l0.any noBit)) ∧ Drawn0 w w' := by
  have HR0 := Aside0.mk hr0
  have HM := Aside0.mk hm
  have HD := Aside0.mk (Drawn0.refl w)
  clear hr0 hm
  go_enter Try.func48, Try.ntmps48
  go_wp2
  go_loopw [8] (fun v8 w' => ∃ i : Int, v8 = .int .i64 i ∧ Aside0 (0 ≤ i ∧ i ≤ l0.length) ∧ Aside0 ((l0.take i.toNat).any noBit = false) ∧ Aside0 (Drawn0 w w')) (fun v8 _ => l0.length - (intOf v8).toNat)
  case atStart => exact ⟨0, rfl, ⟨by omega⟩, ⟨by simp⟩, HD⟩
  case round =>
    obtain ⟨i, rfl, HI, HP, HD1⟩ := hrel
    by_cases c : i < (l0.length : Int)
    · have cb : decide (i < (l0.length : Int)) = true := decide_eq_true c
      have p0 : 0 ≤ i := HI.out.1
      obtain ⟨ad, e, hx0⟩ := Kd.at_int HR0.out i p0 c
      cases e
      replace hx0 := (HD1.out.below.cell (World.block_lt_of_cell? w _ hx0)).trans hx0
      have HC := Aside0.mk c
      clear c
      replace p0 := eq_true p0
      have q0 := eq_true HC.out
      have HT : l0.take (i.toNat + 1) = l0.take i.toNat ++ [rd l0 i] := by
        have h2 := HI.out; have h3 := HC.out
        have h4 : i.toNat < l0.length := by omega
        rw [List.take_succ_eq_append_getElem h4, rd, List.getD_eq_getElem?_getD, List.getElem?_eq_getElem h4]; rfl
      have HT' := Aside0.mk HT
      clear HT
      cases hb : noBit (rd l0 i) with
      | true =>
        have HB := Aside0.mk hb
        clear hb
        go_wp2_with (go_at_call 42; refine (bits_1 (rd l0 i) true _ HB.out).mono ?_; rintro e w' ⟨rfl, ⟨nd, rfl⟩⟩)
        go_ret
        refine ⟨⟨i, rfl, ⟨?_⟩⟩, HD1.out.step nd⟩
        have h2 := HI.out
        have h3 : l0.any noBit = true := by
          rw [← List.take_append_drop (i.toNat + 1) l0, HT'.out]; simp [HB.out]
        rw [h3]; simp; omega
      | false =>
        have HB := Aside0.mk hb
        clear hb
        go_wp2_with (go_at_call 42; refine (bits_1 (rd l0 i) false _ HB.out).mono ?_; rintro e w' ⟨rfl, ⟨nd, rfl⟩⟩)
        go_roundw
        case rel =>
          have h2 := HI.out; have h3 := HC.out; have h5 := HM.out
          have hw : wrap64 (i + 1) = i + 1 := by unfold wrap64; omega
          refine ⟨i + 1, by first | rfl | rw [hw], ⟨by omega⟩, ⟨?_⟩, ⟨HD1.out.step nd⟩⟩
          rw [show (i + 1).toNat = i.toNat + 1 by omega, HT'.out]; simp [HB.out]; simpa using HP.out
        case measure =>
          have h2 := HI.out; have h3 := HC.out; have h5 := HM.out
          have hw : wrap64 (i + 1) = i + 1 := by unfold wrap64; omega
          simp [intOf, hw]; omega
    · have cb : decide (i < (l0.length : Int)) = false := decide_eq_false c
      have HC := Aside0.mk c
      clear c
      go_wp2
      go_ret
      refine ⟨⟨-1, rfl, ⟨?_⟩⟩, HD1.out⟩
      have h2 := HI.out; have h3 := HC.out
      have h4 := HP.out
      rw [show i.toNat = l0.length by omega, List.take_length] at h4
      rw [h4]; rfl
set_option maxHeartbeats 8000000 in
theorem containsFunc_bits (A0 : Option Addr) (c0 : Nat) (l0 : List Int) (r : Bool) (w : World) (hr0 : Kd.C (Kd.int .i64) w A0 l0.length l0) (hm : l0.length < 9223372036854775807) (h : l0.any noBit = r) :
    Calls Try.prog 41 #[.slice A0 l0.length c0, .func (.func 42) #[] #[]] w fun e w' => e = .returned (.bool r) ∧ Drawn0 w w' := by
  have HR0 := Aside0.mk hr0
  have HM := Aside0.mk hm
  have H := Aside0.mk h
  clear hr0 hm h
  go_enter Try.func41, Try.ntmps41
  go_wp2_with (go_at_call 48; refine (indexFunc_bits A0 c0 l0 _ HR0.out HM.out).mono ?_; rintro e w' ⟨⟨i, rfl, HI⟩, ⟨nd, rfl⟩⟩)
  go_ret
  refine ⟨?_, by repeat (first | exact Drawn0.refl _ | apply Drawn0.step)⟩
  have h1 := HI.out; have h2 := H.out
  rw [h2] at h1; rw [← h1]; rfl
def zeroone_bits.f (l0 : List Int) (a1 : Int) : Option Bool := if l0.length < 9223372036854775807 then some (decide ((l0.length : Int) = a1) && !(l0.any noBit)) else none
set_option maxHeartbeats 8000000 in
theorem zeroone_bits.calls (A0 : Option Addr) (c0 : Nat) (l0 : List Int) (a1 : Int) (r : Bool) (w : World) (hr0 : Kd.C (Kd.int .i64) w A0 l0.length l0) (hc0 : l0.length ≤ c0) (h : zeroone_bits.f l0 a1 = some r) :
    Calls Try.prog 29 #[.slice A0 l0.length c0, .int .i64 a1] w fun e w' => e = .returned (.bool r) ∧ Below w.heap.size w w' := by
  unfold zeroone_bits.f at h
  by_cases hm : l0.length < 9223372036854775807
  · rw [if_pos hm] at h
    replace h := Option.some.inj h
    have HR0 := Aside0.mk hr0
    have HM := Aside0.mk hm
    clear hr0 hm
    by_cases c : (l0.length : Int) = a1
    · subst c
      cases hb : l0.any noBit with
      | true =>
        rw [hb] at h; simp at h; subst h
        have HB := Aside0.mk hb
        clear hb
        go_enter Try.func29, Try.ntmps29
        go_wp2_with (go_at_call 41; refine (containsFunc_bits A0 c0 l0 true _ HR0.out HM.out HB.out).mono ?_; rintro e w' ⟨rfl, ⟨nd, rfl⟩⟩)
        go_ret
        exact ⟨rfl, pw_below_drewN (Below.refl _ _) _⟩
      | false =>
        rw [hb] at h; simp at h; subst h
        have HB := Aside0.mk hb
        clear hb
        go_enter Try.func29, Try.ntmps29
        go_wp2_with (go_at_call 41; refine (containsFunc_bits A0 c0 l0 false _ HR0.out HM.out HB.out).mono ?_; rintro e w' ⟨rfl, ⟨nd, rfl⟩⟩)
        go_ret
        exact ⟨rfl, pw_below_drewN (Below.refl _ _) _⟩
    · rw [decide_eq_false c] at h; simp at h; subst h
      have cb : ((l0.length : Int) == a1) = false := beq_eq_false_iff_ne.mpr c
      clear c
      go_enter Try.func29, Try.ntmps29
      go_wp2
      go_ret
      exact ⟨rfl, Below.refl _ _⟩
  · rw [if_neg hm] at h
    exact absurd h (by simp)

end Go.Proofs.Ythicnegcpafkkaa.All
