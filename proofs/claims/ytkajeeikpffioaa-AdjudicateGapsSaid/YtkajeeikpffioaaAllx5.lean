-- Written by myprint.py for this claim: functions of the program as Lean functions, with the proofs that the calls come to them.
import Derived.Test.YtkajeeikpffioaaAllx0
namespace Go.Proofs.Ytkajeeikpffioaa.All
open Go.RowKit Go.Proofs.YtkajeeikpffioaaW.PrintWords Go.Proofs.YtkajeeikpffioaaW.PrintLast Go.Proofs.YtkajeeikpffioaaW.PrintMore
attribute [local go_sem] max2_int min2_int max_two min_two max_three min_three max_four min_four   -- for this text's walks alone
set_option linter.unusedVariables false
set_option linter.unusedSimpArgs false

/-! ### rubric_name: function 43 -/
/-- a small letter -/
def letterV (x : Int) : Bool := decide (97 ≤ x) && decide (x ≤ 122)
def nameV (s : ByteArray) : Bool := (bytesOf s).all letterV && (decide (1 ≤ s.size) && decide (s.size ≤ 20))
def rubric_name.f (a0 : ByteArray) : Option Bool := if a0.size ≤ 140737488351232 then some (nameV a0) else none
theorem bytesWorld_below (w : World) (e : TypeId) (s : ByteArray) : Below w.heap.size w (Lib.bytesWorld w e s) := by
  refine ⟨rfl, rfl, rfl, ?_, fun i hi => Lib.bytesWorld_at_old w e s i hi⟩
  rw [Lib.bytesWorld_size]; omega
theorem take_all_succ {α : Type} (l : List α) (p : α → Bool) (d : α) (i : Nat) (h : i < l.length) (h0 : (l.take i).all p = true) (h1 : p (l.getD i d) = true) : (l.take (i + 1)).all p = true := by
  rw [List.take_succ_eq_append_getElem h, List.all_append, h0]
  rw [List.getD_eq_getElem?_getD, List.getElem?_eq_getElem h] at h1
  simpa using h1
theorem all_false_at {α : Type} (l : List α) (p : α → Bool) (d : α) (i : Nat) (h : i < l.length) (h1 : p (l.getD i d) = false) : l.all p = false := by
  rw [List.getD_eq_getElem?_getD, List.getElem?_eq_getElem h] at h1
  rw [Bool.eq_false_iff]; intro hh
  rw [List.all_eq_true] at hh
  have := hh l[i] (List.getElem_mem h)
  simp at h1; rw [this] at h1; exact absurd h1 (by simp)
set_option maxHeartbeats 8000000 in
theorem rubric_name.calls (a0 : ByteArray) (r : Bool) (w : World) (h : rubric_name.f a0 = some r) : Calls Try.prog 43 #[.string a0] w fun e w' => e = .returned (.bool r) ∧ Below w.heap.size w w' := by
  unfold rubric_name.f at h
  by_cases hm : a0.size ≤ 140737488351232
  · rw [if_pos hm] at h
    replace h := Option.some.inj h
    have HR := Aside0.mk h
    have HM := Aside0.mk hm
    clear h
    have hrd := bytes_reads w 5 a0 (by omega)
    have hbe := bytesWorld_below w 5 a0
    have hc := Lib.run_convert_string_bytes (P := Try.prog) w 9 67 5 a0 Try.underlying9 Try.underlying67 Try.underlying5
    obtain ⟨W, hW⟩ : ∃ W, W = Lib.bytesWorld w 5 a0 := ⟨_, rfl⟩
    obtain ⟨C, hC⟩ : ∃ C, C = grownCap w a0.size 0 5 := ⟨_, rfl⟩
    rw [← hW, ← hC] at hc
    rw [← hW] at hrd hbe
    obtain ⟨g, hg⟩ : ∃ g, g = w.heap.size := ⟨_, rfl⟩
    rw [← hg] at hrd hc
    have HRD := Aside0.mk hrd
    have HBE := Aside0.mk hbe
    clear hrd hbe hW hC hm hg
    go_enter Try.func43, Try.ntmps43
    go_wp2
    go_loop [8] (fun v8 => ∃ i : Int, v8 = .int .i64 i ∧ Aside0 (0 ≤ i ∧ i ≤ a0.size) ∧ Aside0 (((bytesOf a0).take i.toNat).all letterV = true)) (fun v8 => a0.size - (intOf v8).toNat)
    case atStart => exact ⟨0, rfl, ⟨by omega⟩, ⟨by simp⟩⟩
    case round =>
      clear hc
      obtain ⟨i, rfl, HI, HP⟩ := hrel
      by_cases c : i < (a0.size : Int)
      · have cb : decide (i < (a0.size : Int)) = true := decide_eq_true c
        have p0 : 0 ≤ i := HI.out.1
        obtain ⟨ad, e, hx0⟩ := HRD.out.at_ i p0 c
        cases e
        rw [rd_bytesOf, add_plain] at hx0
        have HC := Aside0.mk c
        have q0 := eq_true c
        clear c
        replace p0 := eq_true p0
        have hlen : i.toNat < (bytesOf a0).length := by have h1 := HI.out; have h2 := HC.out; rw [bytesOf_length]; omega
        have hget : (bytesOf a0).getD i.toNat 0 = bt a0 i := rd_bytesOf a0 i
        have HLEN := Aside0.mk hlen
        have HGET := Aside0.mk hget
        clear hlen hget
        by_cases c1 : bt a0 i < 97
        · have c1b : decide (bt a0 i < 97) = true := decide_eq_true c1
          have C1 := Aside0.mk c1
          clear c1
          go_wp2
          go_ret
          refine ⟨?_, HBE.out⟩
          rw [← HR.out]
          have h1 := all_false_at (bytesOf a0) letterV 0 i.toNat HLEN.out (by rw [HGET.out]; have := C1.out; simp [letterV]; omega)
          simp [nameV, h1]
        · by_cases c2 : 122 < bt a0 i
          · have c1b : decide (bt a0 i < 97) = false := decide_eq_false c1
            have c2b : decide (122 < bt a0 i) = true := decide_eq_true c2
            have C2 := Aside0.mk c2
            clear c1 c2
            go_wp2
            go_ret
            refine ⟨?_, HBE.out⟩
            rw [← HR.out]
            have h1 := all_false_at (bytesOf a0) letterV 0 i.toNat HLEN.out (by rw [HGET.out]; have := C2.out; simp [letterV]; omega)
            simp [nameV, h1]
          · have c1b : decide (bt a0 i < 97) = false := decide_eq_false c1
            have c2b : decide (122 < bt a0 i) = false := decide_eq_false c2
            have C2 := Aside0.mk (And.intro c1 c2)
            clear c1 c2
            go_wp2
            go_round
            case rel =>
              have h2 := HI.out; have h3 := HC.out; have h5 := HM.out
              have hw : wrap64 (i + 1) = i + 1 := by unfold wrap64; omega
              refine ⟨i + 1, by first | rfl | rw [hw], ⟨by omega⟩, ⟨?_⟩⟩
              rw [show (i + 1).toNat = i.toNat + 1 by omega]
              refine take_all_succ _ _ 0 _ HLEN.out HP.out ?_
              rw [HGET.out]; have := C2.out; simp [letterV]; omega
            case measure =>
              have h2 := HI.out; have h3 := HC.out; have h5 := HM.out
              have hw : wrap64 (i + 1) = i + 1 := by unfold wrap64; omega
              simp [intOf, hw]; omega
      · have cb : decide (i < (a0.size : Int)) = false := decide_eq_false c
        have hall : (bytesOf a0).all letterV = true := by
          have h1 := HP.out; have h2 := HI.out
          rwa [List.take_of_length_le (by rw [bytesOf_length]; omega)] at h1
        have HALL := Aside0.mk hall
        clear c hall
        go_wp2
        all_goals
          go_ret
          refine ⟨?_, HBE.out⟩
          rw [← HR.out]
          first
            | (have h1 : 1 ≤ a0.size := by omega
               have h2 : decide ((a0.size : Int) ≤ 20) = decide (a0.size ≤ 20) := by by_cases h3 : a0.size ≤ 20 <;> simp [h3] <;> omega
               simp [nameV, HALL.out, h1, h2]; done)
            | (have h1 : ¬ 1 ≤ a0.size := by omega
               simp [nameV, HALL.out]; omega)
  · rw [if_neg hm] at h
    exact absurd h (by simp)

-- NOT PRINTED: function 48 (api_Trait_48)

-- NOT PRINTED: function 44 (api_Trait_44)

end Go.Proofs.Ytkajeeikpffioaa.All
