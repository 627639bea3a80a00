-- Written by myprint.py for this claim: functions of the program as Lean functions, with the proofs that the calls come to them.
import Derived.Test.YtkajeeikpffioaaAllx0
namespace Go.Proofs.Ytkajeeikpffioaa.All
open Go.RowKit Go.Proofs.YtkajeeikpffioaaW.PrintWords Go.Proofs.YtkajeeikpffioaaW.PrintLast Go.Proofs.YtkajeeikpffioaaW.PrintMore
attribute [local go_sem] max2_int min2_int max_two min_two max_three min_three max_four min_four   -- for this text's walks alone
set_option linter.unusedVariables false
set_option linter.unusedSimpArgs false

/-! ### rubric_name: function 43 -/
/-- a small letter -/
def letterV (x : Int) : Bool := decide (97 ≤ x) && decide (x ≤ 122)
def nameV (s : ByteArray) : Bool := (bytesOf s).all letterV && (decide (1 ≤ s.size) && decide (s.size ≤ 20))
def rubric_name.f (a0 : ByteArray) : Option Bool := if a0.size ≤ 140737488351232 then some (nameV a0) else none
theorem bytesWorld_below (w : World) (e : TypeId) (s : ByteArray) : Below w.heap.size w (Lib.bytesWorld w e s) := by
  refine ⟨rfl, rfl, rfl, ?_, fun i hi => Lib.bytesWorld_at_old w e s i hi⟩
  rw [Lib.bytesWorld_size]; omega
theorem take_all_succ {α : Type} (l : List α) (p : α → Bool) (d : α) (i : Nat) (h : i < l.length) (h0 : (l.take i).all p = true) (h1 : p (l.getD i d) = true) : (l.take (i + 1)).all p = true := by
  rw [List.take_succ_eq_append_getElem h, List.all_append, h0]
  rw [List.getD_eq_getElem?_getD, List.getElem?_eq_getElem h] at h1
  simpa using h1
theorem all_false_at {α : Type} (l : List α) (p : α → Bool) (d : α) (i : Nat) (h : i < l.length) (h1 : p (l.getD i d) = false) : l.all p = false := by
  rw [List.getD_eq_getElem?_getD, List.getElem?_eq_getElem h] at h1
  rw [Bool.eq_false_iff]; intro hh
  rw [List.all_eq_true] at hh
  have := hh l[i] (List.getElem_mem h)
  simp at h1; rw [this] at h1; exact absurd h1 (by simp)
set_option maxHeartbeats 8000000 in
theorem rubric_name.calls (a0 : ByteArray) (r : Bool) (w : World) (h : rubric_name.f a0 = some r) : Calls Try.prog 43 #[.string a0] w fun e w' => e = .returned (.bool r) ∧ Below w.heap.size w w' := by
  unfold rubric_name.f at h
  by_cases hm : a0.size ≤ 140737488351232
  · rw [if_pos hm] at h
    replace h := Option.some.inj h
    have HR := Aside0.mk h
    have HM := Aside0.mk hm
    clear h
    have hrd := bytes_reads w 5 a0 (by omega)
    have hbe := bytesWorld_below w 5 a0
    have hc := Lib.run_convert_string_bytes (P := Try.prog) w 9 67 5 a0 Try.underlying9 Try.underlying67 Try.underlying5
    obtain ⟨W, hW⟩ : ∃ W, W = Lib.bytesWorld w 5 a0 := ⟨_, rfl⟩
    obtain ⟨C, hC⟩ : ∃ C, C = grownCap w a0.size 0 5 := ⟨_, rfl⟩
    rw [← hW, ← hC] at hc
    rw [← hW] at hrd hbe
    obtain ⟨g, hg⟩ : ∃ g, g = w.heap.size := ⟨_, rfl⟩
    rw [← hg] at hrd hc
    have HRD := Aside0.mk hrd
    have HBE := Aside0.mk hbe
    clear hrd hbe hW hC hm hg
    go_enter Try.func43, Try.ntmps43
    go_wp2
    go_loop [8] (fun v8 => ∃ i : Int, v8 = .int .i64 i ∧ Aside0 (0 ≤ i ∧ i ≤ a0.size) ∧ Aside0 (((bytesOf a0).take i.toNat).all letterV = true)) (fun v8 => a0.size - (intOf v8).toNat)
    case atStart => exact ⟨0, rfl, ⟨by omega⟩, ⟨by simp⟩⟩
    case round =>
      clear hc
      obtain ⟨i, rfl, HI, HP⟩ := hrel
      by_cases c : i < (a0.size : Int)
      · have cb : decide (i < (a0.size : Int)) = true := decide_eq_true c
        have p0 : 0 ≤ i := HI.out.1
        obtain ⟨ad, e, hx0⟩ := HRD.out.at_ i p0 c
        cases e
        rw [rd_bytesOf, add_plain] at hx0
        have HC := Aside0.mk c
        have q0 := eq_true c
        clear c
        replace p0 := eq_true p0
        have hlen : i.toNat < (bytesOf a0).length := by have h1 := HI.out; have h2 := HC.out; rw [bytesOf_length]; omega
        have hget : (bytesOf a0).getD i.toNat 0 = bt a0 i := rd_bytesOf a0 i
        have HLEN := Aside0.mk hlen
        have HGET := Aside0.mk hget
        clear hlen hget
        by_cases c1 : bt a0 i < 97
        · have c1b : decide (bt a0 i < 97) = true := decide_eq_true c1
          have C1 := Aside0.mk c1
          clear c1
          go_wp2
          go_ret
          refine ⟨?_, HBE.out⟩
          rw [← HR.out]
          have h1 := all_false_at (bytesOf a0) letterV 0 i.toNat HLEN.out (by rw [HGET.out]; have := C1.out; simp [letterV]; omega)
          simp [nameV, h1]
        · by_cases c2 : 122 < bt a0 i
          · have c1b : decide (bt a0 i < 97) = false := decide_eq_false c1
            have c2b : decide (122 < bt a0 i) = true := decide_eq_true c2
            have C2 := Aside0.mk c2
            clear c1 c2
            go_wp2
            go_ret
            refine ⟨?_, HBE.out⟩
            rw [← HR.out]
            have h1 := all_false_at (bytesOf a0) letterV 0 i.toNat HLEN.out (by rw [HGET.out]; have := C2.out; simp [letterV]; omega)
            simp [nameV, h1]
          · have c1b : decide (bt a0 i < 97) = false := decide_eq_false c1
            have c2b : decide (122 < bt a0 i) = false := decide_eq_false c2
            have C2 := Aside0.mk (And.intro c1 c2)
            clear c1 c2
            go_wp2
            go_round
            case rel =>
              have h2 := HI.out; have h3 := HC.out; have h5 := HM.out
              have hw : wrap64 (i + 1) = i + 1 := by unfold wrap64; omega
              refine ⟨i + 1, by first | rfl | rw [hw], ⟨by omega⟩, ⟨?_⟩⟩
              rw [show (i + 1).toNat = i.toNat + 1 by omega]
              refine take_all_succ _ _ 0 _ HLEN.out HP.out ?_
              rw [HGET.out]; have := C2.out; simp [letterV]; omega
            case measure =>
              have h2 := HI.out; have h3 := HC.out; have h5 := HM.out
              have hw : wrap64 (i + 1) = i + 1 := by unfold wrap64; omega
              simp [intOf, hw]; omega
      · have cb : decide (i < (a0.size : Int)) = false := decide_eq_false c
        have hall : (bytesOf a0).all letterV = true := by
          have h1 := HP.out; have h2 := HI.out
          rwa [List.take_of_length_le (by rw [bytesOf_length]; omega)] at h1
        have HALL := Aside0.mk hall
        clear c hall
        go_wp2
        all_goals
          go_ret
          refine ⟨?_, HBE.out⟩
          rw [← HR.out]
          first
            | (have h1 : 1 ≤ a0.size := by omega
               have h2 : decide ((a0.size : Int) ≤ 20) = decide (a0.size ≤ 20) := by by_cases h3 : a0.size ≤ 20 <;> simp [h3] <;> omega
               simp [nameV, HALL.out, h1, h2]; done)
            | (have h1 : ¬ 1 ≤ a0.size := by omega
               simp [nameV, HALL.out]; omega)
  · rw [if_neg hm] at h
    exact absurd h (by simp)

-- NOT PRINTED: function 48 (api_Trait_48)

-- NOT PRINTED: function 44 (api_Trait_44)

/-! ### rubric_Valid: function 33 -/
/-- the trait's name is nm -/
def isNamed (nm : ByteArray) (t : S59) : Bool := t.f0.toList == nm.toList
set_option maxHeartbeats 8000000 in
theorem isNamed_calls (t : S59) (nm : ByteArray) (g : Nat) (r : Bool) (w : World) (hc : w.cell? ⟨g, 0, none⟩ = some (.string nm)) (hg : g < w.heap.size) (h : isNamed nm t = r) :
    Calls Try.prog 45 #[.agg #[.string t.f0, .int .i64 t.f1, .int .i64 t.f2], .pointer (some ⟨g, 0, none⟩)] w fun e w' => e = .returned (.bool r) ∧ Below w.heap.size w w' := by
  have H := Aside0.mk h
  have HB := Aside0.mk ((Below.refl w.heap.size w).alloc (Nat.le_refl _) (.cells #[.string t.f0, .int .i64 t.f1, .int .i64 t.f2] 59))
  clear h
  go_enter Try.func45, Try.ntmps45
  go_wp2
  all_goals
    go_ret
    refine ⟨?_, HB.out⟩
    rw [← H.out]
    rfl
set_option maxHeartbeats 8000000 in
set_option maxRecDepth 100000 in
theorem indexFunc_named (A0 : Option Addr) (c0 : Nat) (l0 : List S59) (nm : ByteArray) (g : Nat) (w : World) (hr0 : Kd.C k59 w A0 l0.length l0) (hm : l0.length < 9223372036854775807) (hc : w.cell? ⟨g, 0, none⟩ = some (.string nm)) (hg : g < w.heap.size) :
    Calls Try.prog 48 #[.slice A0 l0.length c0, .func (.func 45) #[] #[.pointer (some ⟨g, 0, none⟩)]] w fun e w' => (∃ r : Int, e = .returned (.int .i64 r) ∧ Aside0 (decide (r ≥ 0) = l0.any (isNamed nm))) ∧ Below w.heap.size w w' := by
  have HR0 := Aside0.mk hr0
  have HM := Aside0.mk hm
  have HC0 := Aside0.mk hc
  have HG := Aside0.mk hg
  have HB := Aside0.mk (Below.refl w.heap.size w)
  clear hr0 hm hc hg
  go_enter Try.func48, Try.ntmps48
  go_wp2
  go_loopw [8] (fun v8 w' => ∃ i : Int, v8 = .int .i64 i ∧ Aside0 (0 ≤ i ∧ i ≤ l0.length) ∧ Aside0 ((l0.take i.toNat).any (isNamed nm) = false) ∧ Aside0 (Below w.heap.size w w')) (fun v8 _ => l0.length - (intOf v8).toNat)
  case atStart => exact ⟨0, rfl, ⟨by omega⟩, ⟨by simp⟩, HB⟩
  case round =>
    obtain ⟨i, rfl, HI, HP, HB1⟩ := hrel
    by_cases c : i < (l0.length : Int)
    · have cb : decide (i < (l0.length : Int)) = true := decide_eq_true c
      have p0 : 0 ≤ i := HI.out.1
      obtain ⟨ad, e, hx0, hx1, hx2⟩ := at_T59 (Kd.C_below HR0.out HB1.out) i p0 c
      cases e
      have HC := Aside0.mk c
      have q0 := eq_true c
      clear c
      replace p0 := eq_true p0
      have HT : l0.take (i.toNat + 1) = l0.take i.toNat ++ [rd_T59 l0 i] := by
        have h2 := HI.out; have h3 := HC.out
        have h4 : i.toNat < l0.length := by omega
        rw [List.take_succ_eq_append_getElem h4, rd_T59, List.getD_eq_getElem?_getD, List.getElem?_eq_getElem h4]; rfl
      have HT' := Aside0.mk HT
      clear HT
      have HCg := Aside0.mk ((HB1.out.cell (p := ⟨g, 0, none⟩) HG.out).trans HC0.out)
      have HGg := Aside0.mk (Nat.lt_of_lt_of_le HG.out HB1.out.size)
      cases hb : isNamed nm (rd_T59 l0 i) with
      | true =>
        have HBb := Aside0.mk hb
        clear hb
        go_wp2_with (go_at_call 45; refine (isNamed_calls (rd_T59 l0 i) nm g true _ HCg.out HGg.out HBb.out).mono ?_; rintro e w' ⟨rfl, hbel⟩; have HB2 := Aside0.mk (below_then HB1.out HB1.out.size hbel); clear hbel)
        go_ret
        refine ⟨⟨i, rfl, ⟨?_⟩⟩, HB2.out⟩
        have h2 := HI.out
        have h3 : l0.any (isNamed nm) = true := by
          rw [← List.take_append_drop (i.toNat + 1) l0, HT'.out]; simp [HBb.out]
        rw [h3]; simp; omega
      | false =>
        have HBb := Aside0.mk hb
        clear hb
        go_wp2_with (go_at_call 45; refine (isNamed_calls (rd_T59 l0 i) nm g false _ HCg.out HGg.out HBb.out).mono ?_; rintro e w' ⟨rfl, hbel⟩; have HB2 := Aside0.mk (below_then HB1.out HB1.out.size hbel); clear hbel)
        go_roundw
        case rel =>
          have h2 := HI.out; have h3 := HC.out; have h5 := HM.out
          have hw : wrap64 (i + 1) = i + 1 := by unfold wrap64; omega
          refine ⟨i + 1, by first | rfl | rw [hw], ⟨by omega⟩, ⟨?_⟩, HB2⟩
          rw [show (i + 1).toNat = i.toNat + 1 by omega, HT'.out, List.any_append, HP.out]; simp [HBb.out]
        case measure =>
          have h2 := HI.out; have h3 := HC.out; have h5 := HM.out
          have hw : wrap64 (i + 1) = i + 1 := by unfold wrap64; omega
          simp [intOf, hw]; omega
    · have cb : decide (i < (l0.length : Int)) = false := decide_eq_false c
      have HC := Aside0.mk c
      clear c
      go_wp2
      go_ret
      refine ⟨⟨-1, rfl, ⟨?_⟩⟩, HB1.out⟩
      have h2 := HI.out; have h3 := HC.out
      have h4 := HP.out
      rw [List.take_of_length_le (by omega)] at h4
      rw [h4]; rfl
set_option maxHeartbeats 8000000 in
theorem containsFunc_named (A0 : Option Addr) (c0 : Nat) (l0 : List S59) (nm : ByteArray) (g : Nat) (r : Bool) (w : World) (hr0 : Kd.C k59 w A0 l0.length l0) (hm : l0.length < 9223372036854775807) (hc : w.cell? ⟨g, 0, none⟩ = some (.string nm)) (hg : g < w.heap.size) (h : l0.any (isNamed nm) = r) :
    Calls Try.prog 44 #[.slice A0 l0.length c0, .func (.func 45) #[] #[.pointer (some ⟨g, 0, none⟩)]] w fun e w' => e = .returned (.bool r) ∧ Below w.heap.size w w' := by
  have HR0 := Aside0.mk hr0
  have HM := Aside0.mk hm
  have H := Aside0.mk h
  have HC0 := Aside0.mk hc
  have HG := Aside0.mk hg
  clear hr0 hm h hc hg
  go_enter Try.func44, Try.ntmps44
  go_wp2_with (go_at_call 48; refine (indexFunc_named A0 c0 l0 nm g _ HR0.out HM.out HC0.out HG.out).mono ?_; rintro e w' ⟨⟨i, rfl, HI⟩, hbel⟩; have HB2 := Aside0.mk hbel; clear hbel)
  go_ret
  refine ⟨?_, HB2.out⟩
  have h1 := HI.out; have h2 := H.out
  rw [h2] at h1; rw [← h1]; rfl

/-- the first fault of a row of traits, behind those of seen -/
def traitsV : List S59 → List S59 → Int
  | _, [] => 0
  | seen, t :: rest => if nameV t.f0 = false then 2 else if seen.any (isNamed t.f0) = true then 7 else if t.f1 < 1 ∨ t.f1 > 10 ∨ t.f2 < 1 ∨ t.f2 > 10 then 3 else traitsV (seen ++ [t]) rest
def validV (id : Int) (ts : List S59) : Int := if id < 1 ∨ id > 9999999 then 3 else if ts.length > 6 then 5 else if ts.length = 0 then 20 else traitsV [] ts
def namesFit (ts : List S59) : Bool := ts.all fun t => decide (t.f0.size ≤ 140737488351232)
def rubric_Valid.f (a0_0 : Int) (l0_1 : List S59) : Option Int := if namesFit l0_1 = true then some (validV a0_0 l0_1) else none
theorem info59_ : (Try.prog.info? 59).map (fun i => (i.zero, i.size, i.bytes)) = some (some (.agg #[.string ByteArray.empty, .int .i64 0, .int .i64 0]), 3, 32) := by kernel_rfl
theorem ret_i {k : IntKind} {a b : Int} (h : a = b) : Ending.returned (.int k a) = .returned (.int k b) := by rw [h]
set_option maxHeartbeats 16000000 in
set_option maxRecDepth 100000 in
theorem rubric_Valid.calls (a0_0 : Int) (A0_1 : Option Addr) (c0_1 : Nat) (l0_1 : List S59) (r : Int) (w : World) (hr0_1 : Kd.C k59 w A0_1 l0_1.length l0_1) (hc0_1 : l0_1.length ≤ c0_1) (h : rubric_Valid.f a0_0 l0_1 = some r) :
    Calls Try.prog 33 #[.agg #[.int .i64 a0_0, .slice A0_1 l0_1.length c0_1]] w fun e w' => e = .returned (.int .i64 r) ∧ Below w.heap.size w w' := by
  unfold rubric_Valid.f at h
  by_cases hm : namesFit l0_1 = true
  · rw [if_pos hm] at h
    replace h := Option.some.inj h
    have HR := Aside0.mk h
    have HM := Aside0.mk hm
    have HR0 := Aside0.mk hr0_1
    have HC0 := Aside0.mk hc0_1
    have HB := Aside0.mk (Below.refl w.heap.size w)
    have hu26 := Try.underlying26
    have hu59 := Try.underlying59
    clear h hm hr0_1 hc0_1
    by_cases c1 : a0_0 < 1
    · have c1b : decide (a0_0 < 1) = true := decide_eq_true c1
      have C1 := Aside0.mk c1
      clear c1
      go_enter Try.func33, Try.ntmps33
      go_wp2_with (first | ((with_reducible refine gate_dst (N := 1) rfl ?_); refine box_event ?hg (N := 1) ?hd (cs := #[.int .i64 a0_0, .slice A0_1 l0_1.length c0_1]) (t := 26) ?hr ?_; (case hd => rfl); (case hg => rfl); (case hr => first | (go_simp; done) | (go_simp; rfl)); intro gb1 hg w1 hbox hb; have HB1 := Aside0.mk (below_step HB.out hb); have BK1 := Aside0.mk hbox; have GE1 := Aside0.mk (show w.heap.size ≤ gb1 by rw [hg]; exact Nat.le_refl _); clear hb hbox hg; have hczgb10 : w1.cell? ⟨gb1, 0, none⟩ = some (.int .i64 a0_0) := (blk_cell BK1.out 0).trans rfl; have hfzgb10 := blk_frozen BK1.out 0; have hczgb11 : w1.cell? ⟨gb1, 1, none⟩ = some (.slice A0_1 l0_1.length c0_1) := (blk_cell BK1.out 1).trans rfl; have hfzgb11 := blk_frozen BK1.out 1))
      go_ret
      exact ⟨by rw [← HR.out]; have := C1.out; simp [validV, this], HB1.out⟩
    by_cases c2 : 9999999 < a0_0
    · have c1b : decide (a0_0 < 1) = false := decide_eq_false c1
      have c2b : decide (9999999 < a0_0) = true := decide_eq_true c2
      have C2 := Aside0.mk c2
      clear c1 c2
      go_enter Try.func33, Try.ntmps33
      go_wp2_with (first | ((with_reducible refine gate_dst (N := 1) rfl ?_); refine box_event ?hg (N := 1) ?hd (cs := #[.int .i64 a0_0, .slice A0_1 l0_1.length c0_1]) (t := 26) ?hr ?_; (case hd => rfl); (case hg => rfl); (case hr => first | (go_simp; done) | (go_simp; rfl)); intro gb1 hg w1 hbox hb; have HB1 := Aside0.mk (below_step HB.out hb); have BK1 := Aside0.mk hbox; have GE1 := Aside0.mk (show w.heap.size ≤ gb1 by rw [hg]; exact Nat.le_refl _); clear hb hbox hg; have hczgb10 : w1.cell? ⟨gb1, 0, none⟩ = some (.int .i64 a0_0) := (blk_cell BK1.out 0).trans rfl; have hfzgb10 := blk_frozen BK1.out 0; have hczgb11 : w1.cell? ⟨gb1, 1, none⟩ = some (.slice A0_1 l0_1.length c0_1) := (blk_cell BK1.out 1).trans rfl; have hfzgb11 := blk_frozen BK1.out 1))
      go_ret
      exact ⟨by rw [← HR.out]; have := C2.out; simp [validV, this], HB1.out⟩
    have c1b : decide (a0_0 < 1) = false := decide_eq_false c1
    have c2b : decide (9999999 < a0_0) = false := decide_eq_false c2
    have C12 := Aside0.mk (And.intro c1 c2)
    clear c1 c2
    by_cases c3 : 6 < (l0_1.length : Int)
    · have c3b : decide (6 < (l0_1.length : Int)) = true := decide_eq_true c3
      have C3 := Aside0.mk c3
      clear c3
      go_enter Try.func33, Try.ntmps33
      go_wp2_with (first | ((with_reducible refine gate_dst (N := 1) rfl ?_); refine box_event ?hg (N := 1) ?hd (cs := #[.int .i64 a0_0, .slice A0_1 l0_1.length c0_1]) (t := 26) ?hr ?_; (case hd => rfl); (case hg => rfl); (case hr => first | (go_simp; done) | (go_simp; rfl)); intro gb1 hg w1 hbox hb; have HB1 := Aside0.mk (below_step HB.out hb); have BK1 := Aside0.mk hbox; have GE1 := Aside0.mk (show w.heap.size ≤ gb1 by rw [hg]; exact Nat.le_refl _); clear hb hbox hg; have hczgb10 : w1.cell? ⟨gb1, 0, none⟩ = some (.int .i64 a0_0) := (blk_cell BK1.out 0).trans rfl; have hfzgb10 := blk_frozen BK1.out 0; have hczgb11 : w1.cell? ⟨gb1, 1, none⟩ = some (.slice A0_1 l0_1.length c0_1) := (blk_cell BK1.out 1).trans rfl; have hfzgb11 := blk_frozen BK1.out 1))
      go_ret
      exact ⟨ret_i (by rw [← HR.out]; have h1 := C12.out; have h2 := C3.out; unfold validV; rw [if_neg (by omega), if_pos (by omega)]), HB1.out⟩
    have c3b : decide (6 < (l0_1.length : Int)) = false := decide_eq_false c3
    have C3 := Aside0.mk c3
    clear c3
    by_cases c4 : l0_1 = []
    · subst c4
      clear c3b
      go_enter Try.func33, Try.ntmps33
      go_wp2
      go_ret
      exact ⟨ret_i (by rw [← HR.out]; have h1 := C12.out; unfold validV; rw [if_neg (by omega), if_neg (by simp), if_pos (by simp)]), (Below.refl _ _).alloc (Nat.le_refl _) _⟩
    have c4a : ((l0_1.length : Int) == 0) = false := by rw [beq_eq_false_iff_ne]; intro h1; exact c4 (List.eq_nil_of_length_eq_zero (by omega))
    have c4b : (l0_1.length == 0) = false := by rw [beq_eq_false_iff_ne]; intro h1; exact c4 (List.eq_nil_of_length_eq_zero (by omega))
    have HT0 : traitsV (l0_1.take 0) (l0_1.drop 0) = r := by
      rw [← HR.out]; have h1 := C12.out; have h3 := C3.out; unfold validV
      rw [if_neg (by omega), if_neg (by omega), if_neg (by intro h1; exact c4 (List.eq_nil_of_length_eq_zero h1))]; rfl
    have HT0' := Aside0.mk HT0
    have c4c := eq_false c4
    clear HT0 c4
    go_enter Try.func33, Try.ntmps33
    go_wp2_with (first | ((with_reducible refine gate_dst (N := 1) rfl ?_); refine box_event ?hg (N := 1) ?hd (cs := #[.int .i64 a0_0, .slice A0_1 l0_1.length c0_1]) (t := 26) ?hr ?_; (case hd => rfl); (case hg => rfl); (case hr => first | (go_simp; done) | (go_simp; rfl)); intro gb1 hg w1 hbox hb; have HB1 := Aside0.mk (below_step HB.out hb); have BK1 := Aside0.mk hbox; have GE1 := Aside0.mk (show w.heap.size ≤ gb1 by rw [hg]; exact Nat.le_refl _); clear hb hbox hg; have hczgb10 : w1.cell? ⟨gb1, 0, none⟩ = some (.int .i64 a0_0) := (blk_cell BK1.out 0).trans rfl; have hfzgb10 := blk_frozen BK1.out 0; have hczgb11 : w1.cell? ⟨gb1, 1, none⟩ = some (.slice A0_1 l0_1.length c0_1) := (blk_cell BK1.out 1).trans rfl; have hfzgb11 := blk_frozen BK1.out 1))
    clear c1b c2b c3b c4a c4b c4c
    go_loopw [27] (fun v27 w' => ∃ i : Int, v27 = .int .i64 i ∧ Aside0 (0 ≤ i ∧ i ≤ l0_1.length) ∧ Aside0 (traitsV (l0_1.take i.toNat) (l0_1.drop i.toNat) = r) ∧ Aside0 (w'.heap[gb1]? = some (.cells #[.int .i64 a0_0, .slice A0_1 l0_1.length c0_1] 26 (0, 0))) ∧ Aside0 (Below w.heap.size w w')) (fun v27 _ => l0_1.length - (intOf v27).toNat)
    case atStart => exact ⟨0, rfl, ⟨by omega⟩, HT0', BK1, HB1⟩
    case round =>
      clear hczgb10 hczgb11 hfzgb10 hfzgb11 HT0'
      obtain ⟨i, rfl, HI, HT, BKr, HBr⟩ := hrel
      by_cases c : i < (l0_1.length : Int)
      · have cb : decide (i < (l0_1.length : Int)) = true := decide_eq_true c
        have p0 : 0 ≤ i := HI.out.1
        obtain ⟨ad, e, hx0, hx1, hx2⟩ := at_T59 (Kd.C_below HR0.out HBr.out) i p0 c
        cases e
        have HC := Aside0.mk c
        have q0 := eq_true c
        have hlt : i.toNat < l0_1.length := by omega
        have HD : l0_1.drop i.toNat = (rd_T59 l0_1 i) :: l0_1.drop (i.toNat + 1) := by
          rw [rd_T59, List.getD_eq_getElem?_getD, List.getElem?_eq_getElem hlt]; exact List.drop_eq_getElem_cons hlt
        have HD' := Aside0.mk HD
        have HTK : l0_1.take (i.toNat + 1) = l0_1.take i.toNat ++ [(rd_T59 l0_1 i)] := by
          rw [List.take_succ_eq_append_getElem hlt, rd_T59, List.getD_eq_getElem?_getD, List.getElem?_eq_getElem hlt]; rfl
        have HTK' := Aside0.mk HTK
        have hfit : decide ((rd_T59 l0_1 i).f0.size ≤ 140737488351232) = true := by
          have h1 := HM.out
          unfold namesFit at h1
          rw [List.all_eq_true] at h1
          have h2 := h1 l0_1[i.toNat] (List.getElem_mem hlt)
          rw [rd_T59, List.getD_eq_getElem?_getD, List.getElem?_eq_getElem hlt]; exact h2
        have HN0 : rubric_name.f (rd_T59 l0_1 i).f0 = some (nameV (rd_T59 l0_1 i).f0) := by unfold rubric_name.f; rw [if_pos (of_decide_eq_true hfit)]
        have HTL := Aside0.mk (Nat.le_of_lt hlt)
        have HTM : (l0_1.take i.toNat).length < 9223372036854775807 := by rw [List.length_take]; have := C3.out; omega
        have HTM0 := HTM
        clear HTM
        obtain ⟨i59, hi59, _, _, _⟩ := info_parts info59_
        have hcut := cut_to (P := Try.prog) 24 59 .i64 Try.underlying24 hi59 (some ad) l0_1.length c0_1 i p0 (by omega) HC0.out
        have htl : (l0_1.take i.toNat).length = i.toNat := by rw [List.length_take]; omega
        rw [← htl] at hcut
        have hmf : ∀ (fn : Fn) (first cap : Array Value) (w : World), (Instr.makeFunc fn first cap).run Try.prog w = .ok (.func fn first cap) w := fun _ _ _ _ => rfl
        have hrt := Kd.C_take (m := i.toNat) HR0.out HTL.out
        obtain ⟨tk, htk⟩ : ∃ tk, tk = l0_1.take i.toNat := ⟨_, rfl⟩
        rw [← htk] at hcut hrt
        have HRT := Aside0.mk hrt
        have TK := Aside0.mk htk
        rw [← htk] at HTM0
        have HTM := Aside0.mk HTM0
        clear HTM0
        clear c HD HTK hlt htl hi59 hfit hrt htk
        replace p0 := eq_true p0
        cases hn : nameV (rd_T59 l0_1 i).f0 with
        | false =>
          rw [hn] at HN0
          have HN := Aside0.mk HN0
          have HN2 := Aside0.mk hn
          clear HN0 hn
          go_wp2_with (first | ((with_reducible refine gate_dst (N := 4) rfl ?_); refine box_event ?hg (N := 4) ?hd (cs := #[.string (⟨#[]⟩ : ByteArray), .int .i64 0, .int .i64 0]) (t := 59) ?hr ?_; (case hd => rfl); (case hg => rfl); (case hr => first | (go_simp; done) | (go_simp; rfl)); intro gb2 hg w2 hbox hb; have NB := Aside0.mk (show gb1 ≠ gb2 by have := blk_lt BKr.out; omega); have GE2 := Aside0.mk (show w.heap.size ≤ gb2 by rw [hg]; exact HBr.out.size); have HB2 := Aside0.mk (below_step HBr.out hb); have BK12 := Aside0.mk (blk_below BKr.out hb); have BK2 := Aside0.mk hbox; clear hb hbox hg; have hczgb20 : w2.cell? ⟨gb2, 0, none⟩ = some (.string (⟨#[]⟩ : ByteArray)) := (blk_cell BK2.out 0).trans rfl; have hfzgb20 := blk_frozen BK2.out 0; have hczgb21 : w2.cell? ⟨gb2, 1, none⟩ = some (.int .i64 0) := (blk_cell BK2.out 1).trans rfl; have hfzgb21 := blk_frozen BK2.out 1; have hczgb22 : w2.cell? ⟨gb2, 2, none⟩ = some (.int .i64 0) := (blk_cell BK2.out 2).trans rfl; have hfzgb22 := blk_frozen BK2.out 2) | (go_at_call 43; refine (rubric_name.calls (rd_T59 l0_1 i).f0 false _ HN.out).mono ?_; rintro e w5 ⟨rfl, hbel⟩; have BK25 := Aside0.mk (blk_below (g := gb2) (o := .cells #[.string (rd_T59 l0_1 i).f0, .int .i64 (rd_T59 l0_1 i).f1, .int .i64 (rd_T59 l0_1 i).f2] 59 (0, 0)) (by (with_reducible repeat (first | refine blk_drewN ?_ _ | refine blk_drew ?_ | refine blk_alloc ?_ _)); refine blk_put (cs := #[.string (rd_T59 l0_1 i).f0, .int .i64 (rd_T59 l0_1 i).f1, .int .i64 0]) ?_ 2 _ rfl; (with_reducible repeat (first | refine blk_drewN ?_ _ | refine blk_drew ?_ | refine blk_alloc ?_ _)); refine blk_put (cs := #[.string (rd_T59 l0_1 i).f0, .int .i64 0, .int .i64 0]) ?_ 1 _ rfl; (with_reducible repeat (first | refine blk_drewN ?_ _ | refine blk_drew ?_ | refine blk_alloc ?_ _)); refine blk_put (cs := #[.string (⟨#[]⟩ : ByteArray), .int .i64 0, .int .i64 0]) ?_ 0 _ rfl; (with_reducible repeat (first | refine blk_drewN ?_ _ | refine blk_drew ?_ | refine blk_alloc ?_ _)); exact BK2.out) hbel); have BK15 := Aside0.mk (blk_below (g := gb1) (o := .cells #[.int .i64 a0_0, .slice (some ad) l0_1.length c0_1] 26 (0, 0)) (by (with_reducible repeat (first | refine blk_drewN ?_ _ | refine blk_drew ?_ | refine blk_alloc ?_ _)); refine blk_far ?_ NB.out _; (with_reducible repeat (first | refine blk_drewN ?_ _ | refine blk_drew ?_ | refine blk_alloc ?_ _)); refine blk_far ?_ NB.out _; (with_reducible repeat (first | refine blk_drewN ?_ _ | refine blk_drew ?_ | refine blk_alloc ?_ _)); refine blk_far ?_ NB.out _; (with_reducible repeat (first | refine blk_drewN ?_ _ | refine blk_drew ?_ | refine blk_alloc ?_ _)); exact BK12.out) hbel); have HB5 := Aside0.mk (below_step (by repeat (first | (with_reducible first | exact HB2.out | refine below_set ?_ GE2.out) | exact HB2.out)) hbel); clear hbel hczgb20 hczgb21 hczgb22 hfzgb20 hfzgb21 hfzgb22; have hczgb10 : w5.cell? ⟨gb1, 0, none⟩ = some (.int .i64 a0_0) := (blk_cell BK15.out 0).trans rfl; have hfzgb10 := blk_frozen BK15.out 0; have hczgb11 : w5.cell? ⟨gb1, 1, none⟩ = some (.slice (some ad) l0_1.length c0_1) := (blk_cell BK15.out 1).trans rfl; have hfzgb11 := blk_frozen BK15.out 1; have hczgb20 : w5.cell? ⟨gb2, 0, none⟩ = some (.string (rd_T59 l0_1 i).f0) := (blk_cell BK25.out 0).trans rfl; have hfzgb20 := blk_frozen BK25.out 0; have hczgb21 : w5.cell? ⟨gb2, 1, none⟩ = some (.int .i64 (rd_T59 l0_1 i).f1) := (blk_cell BK25.out 1).trans rfl; have hfzgb21 := blk_frozen BK25.out 1; have hczgb22 : w5.cell? ⟨gb2, 2, none⟩ = some (.int .i64 (rd_T59 l0_1 i).f2) := (blk_cell BK25.out 2).trans rfl; have hfzgb22 := blk_frozen BK25.out 2))
          go_ret
          exact ⟨ret_i (by rw [← HT.out, HD'.out]; unfold traitsV; rw [if_pos HN2.out]), HB5.out⟩
        | true =>
          rw [hn] at HN0
          have HN := Aside0.mk HN0
          have HN2 := Aside0.mk hn
          clear HN0 hn
          cases ha : tk.any (isNamed (rd_T59 l0_1 i).f0) with
          | true =>
            have HA := Aside0.mk ha
            have HA' := Aside0.mk (show (l0_1.take i.toNat).any (isNamed (rd_T59 l0_1 i).f0) = true by rw [← TK.out]; exact ha)
            clear ha
            go_wp2_with (first | ((with_reducible refine gate_dst (N := 4) rfl ?_); refine box_event ?hg (N := 4) ?hd (cs := #[.string (⟨#[]⟩ : ByteArray), .int .i64 0, .int .i64 0]) (t := 59) ?hr ?_; (case hd => rfl); (case hg => rfl); (case hr => first | (go_simp; done) | (go_simp; rfl)); intro gb2 hg w2 hbox hb; have NB := Aside0.mk (show gb1 ≠ gb2 by have := blk_lt BKr.out; omega); have GE2 := Aside0.mk (show w.heap.size ≤ gb2 by rw [hg]; exact HBr.out.size); have HB2 := Aside0.mk (below_step HBr.out hb); have BK12 := Aside0.mk (blk_below BKr.out hb); have BK2 := Aside0.mk hbox; clear hb hbox hg; have hczgb20 : w2.cell? ⟨gb2, 0, none⟩ = some (.string (⟨#[]⟩ : ByteArray)) := (blk_cell BK2.out 0).trans rfl; have hfzgb20 := blk_frozen BK2.out 0; have hczgb21 : w2.cell? ⟨gb2, 1, none⟩ = some (.int .i64 0) := (blk_cell BK2.out 1).trans rfl; have hfzgb21 := blk_frozen BK2.out 1; have hczgb22 : w2.cell? ⟨gb2, 2, none⟩ = some (.int .i64 0) := (blk_cell BK2.out 2).trans rfl; have hfzgb22 := blk_frozen BK2.out 2) | (go_at_call 43; refine (rubric_name.calls (rd_T59 l0_1 i).f0 true _ HN.out).mono ?_; rintro e w5 ⟨rfl, hbel⟩; have BK25 := Aside0.mk (blk_below (g := gb2) (o := .cells #[.string (rd_T59 l0_1 i).f0, .int .i64 (rd_T59 l0_1 i).f1, .int .i64 (rd_T59 l0_1 i).f2] 59 (0, 0)) (by (with_reducible repeat (first | refine blk_drewN ?_ _ | refine blk_drew ?_ | refine blk_alloc ?_ _)); refine blk_put (cs := #[.string (rd_T59 l0_1 i).f0, .int .i64 (rd_T59 l0_1 i).f1, .int .i64 0]) ?_ 2 _ rfl; (with_reducible repeat (first | refine blk_drewN ?_ _ | refine blk_drew ?_ | refine blk_alloc ?_ _)); refine blk_put (cs := #[.string (rd_T59 l0_1 i).f0, .int .i64 0, .int .i64 0]) ?_ 1 _ rfl; (with_reducible repeat (first | refine blk_drewN ?_ _ | refine blk_drew ?_ | refine blk_alloc ?_ _)); refine blk_put (cs := #[.string (⟨#[]⟩ : ByteArray), .int .i64 0, .int .i64 0]) ?_ 0 _ rfl; (with_reducible repeat (first | refine blk_drewN ?_ _ | refine blk_drew ?_ | refine blk_alloc ?_ _)); exact BK2.out) hbel); have BK15 := Aside0.mk (blk_below (g := gb1) (o := .cells #[.int .i64 a0_0, .slice (some ad) l0_1.length c0_1] 26 (0, 0)) (by (with_reducible repeat (first | refine blk_drewN ?_ _ | refine blk_drew ?_ | refine blk_alloc ?_ _)); refine blk_far ?_ NB.out _; (with_reducible repeat (first | refine blk_drewN ?_ _ | refine blk_drew ?_ | refine blk_alloc ?_ _)); refine blk_far ?_ NB.out _; (with_reducible repeat (first | refine blk_drewN ?_ _ | refine blk_drew ?_ | refine blk_alloc ?_ _)); refine blk_far ?_ NB.out _; (with_reducible repeat (first | refine blk_drewN ?_ _ | refine blk_drew ?_ | refine blk_alloc ?_ _)); exact BK12.out) hbel); have HB5 := Aside0.mk (below_step (by repeat (first | (with_reducible first | exact HB2.out | refine below_set ?_ GE2.out) | exact HB2.out)) hbel); clear hbel hczgb20 hczgb21 hczgb22 hfzgb20 hfzgb21 hfzgb22; have hczgb10 : w5.cell? ⟨gb1, 0, none⟩ = some (.int .i64 a0_0) := (blk_cell BK15.out 0).trans rfl; have hfzgb10 := blk_frozen BK15.out 0; have hczgb11 : w5.cell? ⟨gb1, 1, none⟩ = some (.slice (some ad) l0_1.length c0_1) := (blk_cell BK15.out 1).trans rfl; have hfzgb11 := blk_frozen BK15.out 1; have hczgb20 : w5.cell? ⟨gb2, 0, none⟩ = some (.string (rd_T59 l0_1 i).f0) := (blk_cell BK25.out 0).trans rfl; have hfzgb20 := blk_frozen BK25.out 0; have hczgb21 : w5.cell? ⟨gb2, 1, none⟩ = some (.int .i64 (rd_T59 l0_1 i).f1) := (blk_cell BK25.out 1).trans rfl; have hfzgb21 := blk_frozen BK25.out 1; have hczgb22 : w5.cell? ⟨gb2, 2, none⟩ = some (.int .i64 (rd_T59 l0_1 i).f2) := (blk_cell BK25.out 2).trans rfl; have hfzgb22 := blk_frozen BK25.out 2) | (go_at_call 44; refine (containsFunc_named (some ad) c0_1 tk (rd_T59 l0_1 i).f0 gb2 true _ (Kd.C_below HRT.out HB5.out) HTM.out hczgb20 (blk_lt BK25.out) HA.out).mono ?_; rintro e w6 ⟨rfl, hbel⟩; have BK26 := Aside0.mk (blk_below BK25.out hbel); have BK16 := Aside0.mk (blk_below BK15.out hbel); have HB6 := Aside0.mk (below_step HB5.out hbel); clear hbel; clear hczgb10 hczgb11 hfzgb10 hfzgb11 hczgb20 hczgb21 hczgb22 hfzgb20 hfzgb21 hfzgb22; have hczgb10 : w6.cell? ⟨gb1, 0, none⟩ = some (.int .i64 a0_0) := (blk_cell BK16.out 0).trans rfl; have hfzgb10 := blk_frozen BK16.out 0; have hczgb11 : w6.cell? ⟨gb1, 1, none⟩ = some (.slice (some ad) l0_1.length c0_1) := (blk_cell BK16.out 1).trans rfl; have hfzgb11 := blk_frozen BK16.out 1; have hczgb20 : w6.cell? ⟨gb2, 0, none⟩ = some (.string (rd_T59 l0_1 i).f0) := (blk_cell BK26.out 0).trans rfl; have hfzgb20 := blk_frozen BK26.out 0; have hczgb21 : w6.cell? ⟨gb2, 1, none⟩ = some (.int .i64 (rd_T59 l0_1 i).f1) := (blk_cell BK26.out 1).trans rfl; have hfzgb21 := blk_frozen BK26.out 1; have hczgb22 : w6.cell? ⟨gb2, 2, none⟩ = some (.int .i64 (rd_T59 l0_1 i).f2) := (blk_cell BK26.out 2).trans rfl; have hfzgb22 := blk_frozen BK26.out 2))
            go_ret
            exact ⟨ret_i (by rw [← HT.out, HD'.out]; unfold traitsV; rw [if_neg (by rw [HN2.out]; decide), if_pos HA'.out]), HB6.out⟩
          | false =>
            have HA := Aside0.mk ha
            have HA' := Aside0.mk (show (l0_1.take i.toNat).any (isNamed (rd_T59 l0_1 i).f0) = false by rw [← TK.out]; exact ha)
            clear ha
            go_wp2_with (first | ((with_reducible refine gate_dst (N := 4) rfl ?_); refine box_event ?hg (N := 4) ?hd (cs := #[.string (⟨#[]⟩ : ByteArray), .int .i64 0, .int .i64 0]) (t := 59) ?hr ?_; (case hd => rfl); (case hg => rfl); (case hr => first | (go_simp; done) | (go_simp; rfl)); intro gb2 hg w2 hbox hb; have NB := Aside0.mk (show gb1 ≠ gb2 by have := blk_lt BKr.out; omega); have GE2 := Aside0.mk (show w.heap.size ≤ gb2 by rw [hg]; exact HBr.out.size); have HB2 := Aside0.mk (below_step HBr.out hb); have BK12 := Aside0.mk (blk_below BKr.out hb); have BK2 := Aside0.mk hbox; clear hb hbox hg; have hczgb20 : w2.cell? ⟨gb2, 0, none⟩ = some (.string (⟨#[]⟩ : ByteArray)) := (blk_cell BK2.out 0).trans rfl; have hfzgb20 := blk_frozen BK2.out 0; have hczgb21 : w2.cell? ⟨gb2, 1, none⟩ = some (.int .i64 0) := (blk_cell BK2.out 1).trans rfl; have hfzgb21 := blk_frozen BK2.out 1; have hczgb22 : w2.cell? ⟨gb2, 2, none⟩ = some (.int .i64 0) := (blk_cell BK2.out 2).trans rfl; have hfzgb22 := blk_frozen BK2.out 2) | (go_at_call 43; refine (rubric_name.calls (rd_T59 l0_1 i).f0 true _ HN.out).mono ?_; rintro e w5 ⟨rfl, hbel⟩; have BK25 := Aside0.mk (blk_below (g := gb2) (o := .cells #[.string (rd_T59 l0_1 i).f0, .int .i64 (rd_T59 l0_1 i).f1, .int .i64 (rd_T59 l0_1 i).f2] 59 (0, 0)) (by (with_reducible repeat (first | refine blk_drewN ?_ _ | refine blk_drew ?_ | refine blk_alloc ?_ _)); refine blk_put (cs := #[.string (rd_T59 l0_1 i).f0, .int .i64 (rd_T59 l0_1 i).f1, .int .i64 0]) ?_ 2 _ rfl; (with_reducible repeat (first | refine blk_drewN ?_ _ | refine blk_drew ?_ | refine blk_alloc ?_ _)); refine blk_put (cs := #[.string (rd_T59 l0_1 i).f0, .int .i64 0, .int .i64 0]) ?_ 1 _ rfl; (with_reducible repeat (first | refine blk_drewN ?_ _ | refine blk_drew ?_ | refine blk_alloc ?_ _)); refine blk_put (cs := #[.string (⟨#[]⟩ : ByteArray), .int .i64 0, .int .i64 0]) ?_ 0 _ rfl; (with_reducible repeat (first | refine blk_drewN ?_ _ | refine blk_drew ?_ | refine blk_alloc ?_ _)); exact BK2.out) hbel); have BK15 := Aside0.mk (blk_below (g := gb1) (o := .cells #[.int .i64 a0_0, .slice (some ad) l0_1.length c0_1] 26 (0, 0)) (by (with_reducible repeat (first | refine blk_drewN ?_ _ | refine blk_drew ?_ | refine blk_alloc ?_ _)); refine blk_far ?_ NB.out _; (with_reducible repeat (first | refine blk_drewN ?_ _ | refine blk_drew ?_ | refine blk_alloc ?_ _)); refine blk_far ?_ NB.out _; (with_reducible repeat (first | refine blk_drewN ?_ _ | refine blk_drew ?_ | refine blk_alloc ?_ _)); refine blk_far ?_ NB.out _; (with_reducible repeat (first | refine blk_drewN ?_ _ | refine blk_drew ?_ | refine blk_alloc ?_ _)); exact BK12.out) hbel); have HB5 := Aside0.mk (below_step (by repeat (first | (with_reducible first | exact HB2.out | refine below_set ?_ GE2.out) | exact HB2.out)) hbel); clear hbel hczgb20 hczgb21 hczgb22 hfzgb20 hfzgb21 hfzgb22; have hczgb10 : w5.cell? ⟨gb1, 0, none⟩ = some (.int .i64 a0_0) := (blk_cell BK15.out 0).trans rfl; have hfzgb10 := blk_frozen BK15.out 0; have hczgb11 : w5.cell? ⟨gb1, 1, none⟩ = some (.slice (some ad) l0_1.length c0_1) := (blk_cell BK15.out 1).trans rfl; have hfzgb11 := blk_frozen BK15.out 1; have hczgb20 : w5.cell? ⟨gb2, 0, none⟩ = some (.string (rd_T59 l0_1 i).f0) := (blk_cell BK25.out 0).trans rfl; have hfzgb20 := blk_frozen BK25.out 0; have hczgb21 : w5.cell? ⟨gb2, 1, none⟩ = some (.int .i64 (rd_T59 l0_1 i).f1) := (blk_cell BK25.out 1).trans rfl; have hfzgb21 := blk_frozen BK25.out 1; have hczgb22 : w5.cell? ⟨gb2, 2, none⟩ = some (.int .i64 (rd_T59 l0_1 i).f2) := (blk_cell BK25.out 2).trans rfl; have hfzgb22 := blk_frozen BK25.out 2) | (go_at_call 44; refine (containsFunc_named (some ad) c0_1 tk (rd_T59 l0_1 i).f0 gb2 false _ (Kd.C_below HRT.out HB5.out) HTM.out hczgb20 (blk_lt BK25.out) HA.out).mono ?_; rintro e w6 ⟨rfl, hbel⟩; have BK26 := Aside0.mk (blk_below BK25.out hbel); have BK16 := Aside0.mk (blk_below BK15.out hbel); have HB6 := Aside0.mk (below_step HB5.out hbel); clear hbel; clear hczgb10 hczgb11 hfzgb10 hfzgb11 hczgb20 hczgb21 hczgb22 hfzgb20 hfzgb21 hfzgb22; have hczgb10 : w6.cell? ⟨gb1, 0, none⟩ = some (.int .i64 a0_0) := (blk_cell BK16.out 0).trans rfl; have hfzgb10 := blk_frozen BK16.out 0; have hczgb11 : w6.cell? ⟨gb1, 1, none⟩ = some (.slice (some ad) l0_1.length c0_1) := (blk_cell BK16.out 1).trans rfl; have hfzgb11 := blk_frozen BK16.out 1; have hczgb20 : w6.cell? ⟨gb2, 0, none⟩ = some (.string (rd_T59 l0_1 i).f0) := (blk_cell BK26.out 0).trans rfl; have hfzgb20 := blk_frozen BK26.out 0; have hczgb21 : w6.cell? ⟨gb2, 1, none⟩ = some (.int .i64 (rd_T59 l0_1 i).f1) := (blk_cell BK26.out 1).trans rfl; have hfzgb21 := blk_frozen BK26.out 1; have hczgb22 : w6.cell? ⟨gb2, 2, none⟩ = some (.int .i64 (rd_T59 l0_1 i).f2) := (blk_cell BK26.out 2).trans rfl; have hfzgb22 := blk_frozen BK26.out 2))
            all_goals first
              | (go_ret
                 exact ⟨ret_i (by rw [← HT.out, HD'.out]; unfold traitsV; rw [if_neg (by rw [HN2.out]; decide), if_neg (by rw [HA'.out]; decide), if_pos (by omega)]), HB6.out⟩)
              | (go_roundw
                 case rel =>
                   have h2 := HI.out; have h3 := HC.out; have h5 := HTM.out
                   have hw : wrap64 (i + 1) = i + 1 := by unfold wrap64; have := C3.out; omega
                   refine ⟨i + 1, by first | rfl | rw [hw], ⟨by omega⟩, ⟨?_⟩, BK16, HB6⟩
                   have h1 := HT.out
                   rw [HD'.out] at h1; unfold traitsV at h1
                   rw [if_neg (by rw [HN2.out]; decide), if_neg (by rw [HA'.out]; decide), if_neg (by omega), ← HTK'.out] at h1
                   rw [show (i + 1).toNat = i.toNat + 1 by omega]; exact h1
                 case measure =>
                   have h2 := HI.out; have h3 := HC.out; have h5 := C3.out
                   have hw : wrap64 (i + 1) = i + 1 := by unfold wrap64; omega
                   simp [intOf, hw]; omega)
      · have cb : decide (i < (l0_1.length : Int)) = false := decide_eq_false c
        have HC := Aside0.mk c
        clear c
        go_wp2
        go_ret
        refine ⟨ret_i ?_, HBr.out⟩
        have h2 := HI.out; have h3 := HC.out
        rw [← HT.out, List.drop_eq_nil_of_le (by omega)]; rfl
  · rw [if_neg hm] at h
    exact absurd h (by simp)

end Go.Proofs.Ytkajeeikpffioaa.All
