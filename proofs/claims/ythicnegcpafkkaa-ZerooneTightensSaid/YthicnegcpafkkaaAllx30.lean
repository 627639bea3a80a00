-- Written by myprint.py for this claim: functions of the program as Lean functions, with the proofs that the calls come to them.
import Derived.Test.YthicnegcpafkkaaAllx0
import Derived.Test.YthicnegcpafkkaaAllx29
namespace Go.Proofs.Ythicnegcpafkkaa.All
open Go.RowKit Go.Proofs.YthicnegcpafkkaaW.PrintWords Go.Proofs.YthicnegcpafkkaaW.PrintLast Go.Proofs.YthicnegcpafkkaaW.PrintMore
attribute [local go_sem] max2_int min2_int max_two min_two max_three min_three max_four min_four   -- for this text's walks alone
set_option linter.unusedVariables false
set_option linter.unusedSimpArgs false

/-! ### examboardlaw34_same: function 20 -/
def sameRows : List S45 → List S45 → Bool
  | [], [] => true
  | a :: l, b :: m => (a.f0 == b.f0 && (a.f1 == b.f1 && a.f2 == b.f2)) && sameRows l m
  | _, _ => false
theorem sameRows_eq : ∀ {l m : List S45}, sameRows l m = true → l = m
  | [], [], _ => rfl
  | ⟨a0, a1, a2⟩ :: l, ⟨b0, b1, b2⟩ :: m, h => by
    simp only [sameRows, Bool.and_eq_true, beq_iff_eq] at h
    obtain ⟨⟨rfl, rfl, rfl⟩, h2⟩ := h
    rw [sameRows_eq h2]
  | [], _ :: _, h => by simp [sameRows] at h
  | _ :: _, [], h => by simp [sameRows] at h
theorem sameRows_self : ∀ l : List S45, sameRows l l = true
  | [] => rfl
  | a :: l => by simp [sameRows, sameRows_self l]
/-- Of two programs that are the same (the only case that is needed): they are the same. -/
def examboardlaw34_same.f (l0_0 : List Int) (l0_1 : List S45) (l0_2 : List Int) (l1_0 : List Int) (l1_1 : List S45) (l1_2 : List Int) : Option Bool :=
  if l0_0 = l1_0 ∧ sameRows l0_1 l1_1 = true ∧ l0_2 = l1_2 ∧ l0_0.length < 9223372036854775807 ∧ l0_1.length < 9223372036854775807 ∧ l0_2.length < 9223372036854775807 ∧ (l0_1.all fun r => decide (r.f0.length < 9223372036854775807)) = true then some true else none
theorem ints_self_l0 (l : List Int) (hl : l.length < 9223372036854775807) : ∀ (d i k : Nat), l.length - i = d → i ≤ l.length → d < k → examboardlaw34_ints.l0 k l l (i : Int) = some true := by
  intro d
  induction d with
  | zero =>
    intro i k hd hi hk
    obtain ⟨k, rfl⟩ : ∃ m, k = m + 1 := ⟨k - 1, by omega⟩
    simp only [examboardlaw34_ints.l0]; rw [if_neg (by omega)]
  | succ d ih =>
    intro i k hd hi hk
    obtain ⟨k, rfl⟩ : ∃ m, k = m + 1 := ⟨k - 1, by omega⟩
    have hw : wrap64 ((i : Int) + 1) = ((i + 1 : Nat) : Int) := by unfold wrap64; omega
    simp only [examboardlaw34_ints.l0]; rw [if_pos (by omega), if_pos (by omega), if_pos (by omega), hw]
    simpa using ih (i + 1) k (by omega) (by omega) (by omega)
theorem ints_self (l : List Int) (hl : l.length < 9223372036854775807) : ∃ k, examboardlaw34_ints.f k l l = some true :=
  ⟨l.length + 1, by unfold examboardlaw34_ints.f; rw [if_pos rfl]; exact ints_self_l0 l hl l.length 0 _ rfl (Nat.zero_le _) (by omega)⟩
set_option maxHeartbeats 8000000 in
set_option maxRecDepth 100000 in
theorem examboardlaw34_same.calls (A0_0 : Option Addr) (c0_0 : Nat) (l0_0 : List Int) (A0_1 : Option Addr) (c0_1 : Nat) (l0_1 : List (S45)) (A0_2 : Option Addr) (c0_2 : Nat) (l0_2 : List Int) (A1_0 : Option Addr) (c1_0 : Nat) (l1_0 : List Int) (A1_1 : Option Addr) (c1_1 : Nat) (l1_1 : List (S45)) (A1_2 : Option Addr) (c1_2 : Nat) (l1_2 : List Int) (r : Bool) (w : World) (hr0_0 : Kd.C (Kd.int .i64) w A0_0 l0_0.length l0_0) (hc0_0 : l0_0.length ≤ c0_0) (hr0_1 : Kd.C k45 w A0_1 l0_1.length l0_1) (hc0_1 : l0_1.length ≤ c0_1) (hr0_2 : Kd.C (Kd.int .i64) w A0_2 l0_2.length l0_2) (hc0_2 : l0_2.length ≤ c0_2) (hr1_0 : Kd.C (Kd.int .i64) w A1_0 l1_0.length l1_0) (hc1_0 : l1_0.length ≤ c1_0) (hr1_1 : Kd.C k45 w A1_1 l1_1.length l1_1) (hc1_1 : l1_1.length ≤ c1_1) (hr1_2 : Kd.C (Kd.int .i64) w A1_2 l1_2.length l1_2) (hc1_2 : l1_2.length ≤ c1_2) (h : examboardlaw34_same.f l0_0 l0_1 l0_2 l1_0 l1_1 l1_2 = some r) :
    Calls Try.prog 20 #[.agg #[.slice A0_0 l0_0.length c0_0, .slice A0_1 l0_1.length c0_1, .slice A0_2 l0_2.length c0_2], .agg #[.slice A1_0 l1_0.length c1_0, .slice A1_1 l1_1.length c1_1, .slice A1_2 l1_2.length c1_2]] w fun e w' => e = .returned (.bool r) ∧ Below w.heap.size w w' := by
  unfold examboardlaw34_same.f at h
  split at h
  case isFalse => cases h
  case isTrue hq =>
    obtain rfl := Option.some.inj h
    obtain ⟨rfl, hrows, rfl, hl0, hl1, hl2, hla⟩ := hq
    obtain rfl := sameRows_eq hrows
    have hlr : ∀ r ∈ l0_1, r.f0.length < 9223372036854775807 := fun r hr => of_decide_eq_true (List.all_eq_true.1 hla r hr)
    clear hrows hla
    obtain ⟨k0, hk0⟩ := ints_self l0_0 hl0
    obtain ⟨k2, hk2⟩ := ints_self l0_2 hl2
    have HK0 := Aside0.mk hk0
    have HK2 := Aside0.mk hk2
    have H00 := Aside0.mk hr0_0
    have H01 := Aside0.mk hr0_1
    have H02 := Aside0.mk hr0_2
    have H10 := Aside0.mk hr1_0
    have H11 := Aside0.mk hr1_1
    have H12 := Aside0.mk hr1_2
    have K00 := Aside0.mk hc0_0
    have K01 := Aside0.mk hc0_1
    have K02 := Aside0.mk hc0_2
    have K10 := Aside0.mk hc1_0
    have K11 := Aside0.mk hc1_1
    have K12 := Aside0.mk hc1_2
    have HL1 := Aside0.mk hl1
    have HLR := Aside0.mk hlr
    have HB := Aside0.mk (Below.refl w.heap.size w)
    have hu25 := Try.underlying25
    have hu45 := Try.underlying45
    clear h hl0 hl1 hl2 hlr hk0 hk2 hr0_0 hr0_1 hr0_2 hr1_0 hr1_1 hr1_2 hc0_0 hc0_1 hc0_2 hc1_0 hc1_1 hc1_2
    go_enter Try.func20, Try.ntmps20
    go_wp2_with (first | ((with_reducible refine gate_dst (N := 2) rfl ?_); refine box_event ?hg (N := 2) ?hd (cs := #[.slice A0_0 l0_0.length c0_0, .slice A0_1 l0_1.length c0_1, .slice A0_2 l0_2.length c0_2]) (t := 25) ?hr ?_; (case hd => rfl); (case hg => rfl); (case hr => first | (go_simp; done) | (go_simp; rfl)); intro gb1 hg w1 hbox hb; have HB1 := Aside0.mk (below_step HB.out hb); have BK1 := Aside0.mk hbox; clear hb hbox hg) | ((with_reducible refine gate_dst (N := 3) rfl ?_); refine box_event ?hg (N := 3) ?hd (cs := #[.slice A1_0 l0_0.length c1_0, .slice A1_1 l0_1.length c1_1, .slice A1_2 l0_2.length c1_2]) (t := 25) ?hr ?_; (case hd => rfl); (case hg => rfl); (case hr => first | (go_simp; done) | (go_simp; rfl)); intro gb2 hg w2 hbox hb; have HB2 := Aside0.mk (below_step HB1.out hb); have BK12 := Aside0.mk (blk_below BK1.out hb); have BK2 := Aside0.mk hbox; clear hb hbox hg; have hczgb10 : w2.cell? ⟨gb1, 0, none⟩ = some (.slice A0_0 l0_0.length c0_0) := (blk_cell BK12.out 0).trans rfl; have hfzgb10 := blk_frozen BK12.out 0; have hczgb11 : w2.cell? ⟨gb1, 1, none⟩ = some (.slice A0_1 l0_1.length c0_1) := (blk_cell BK12.out 1).trans rfl; have hfzgb11 := blk_frozen BK12.out 1; have hczgb12 : w2.cell? ⟨gb1, 2, none⟩ = some (.slice A0_2 l0_2.length c0_2) := (blk_cell BK12.out 2).trans rfl; have hfzgb12 := blk_frozen BK12.out 2; have hczgb20 : w2.cell? ⟨gb2, 0, none⟩ = some (.slice A1_0 l0_0.length c1_0) := (blk_cell BK2.out 0).trans rfl; have hfzgb20 := blk_frozen BK2.out 0; have hczgb21 : w2.cell? ⟨gb2, 1, none⟩ = some (.slice A1_1 l0_1.length c1_1) := (blk_cell BK2.out 1).trans rfl; have hfzgb21 := blk_frozen BK2.out 1; have hczgb22 : w2.cell? ⟨gb2, 2, none⟩ = some (.slice A1_2 l0_2.length c1_2) := (blk_cell BK2.out 2).trans rfl; have hfzgb22 := blk_frozen BK2.out 2) | (go_at_call 23; (with_reducible refine (examboardlaw34_ints.calls k0 A0_0 c0_0 l0_0 A1_0 c1_0 l0_0 true _ (Kd.C_below H00.out HB2.out) K00.out (Kd.C_below H10.out HB2.out) K10.out HK0.out).mono ?_); rintro e w' ⟨rfl, ⟨nd0, rfl⟩⟩) | (go_at_call 23; (with_reducible refine (examboardlaw34_ints.calls k2 A0_2 c0_2 l0_2 A1_2 c1_2 l0_2 true _ (Kd.C_below H02.out (pw_below_drewN HB2.out _)) K02.out (Kd.C_below H12.out (pw_below_drewN HB2.out _)) K12.out HK2.out).mono ?_); rintro e w' ⟨rfl, ⟨nd2, rfl⟩⟩))
    go_loopw [5] (fun v5 w' => ∃ i : Int, v5 = .int .i64 i ∧ Aside0 (0 ≤ i ∧ i ≤ l0_1.length) ∧ Aside0 (w'.heap[gb1]? = some (.cells #[.slice A0_0 l0_0.length c0_0, .slice A0_1 l0_1.length c0_1, .slice A0_2 l0_2.length c0_2] 25 (0, 0))) ∧ Aside0 (w'.heap[gb2]? = some (.cells #[.slice A1_0 l0_0.length c1_0, .slice A1_1 l0_1.length c1_1, .slice A1_2 l0_2.length c1_2] 25 (0, 0))) ∧ Aside0 (Below w.heap.size w w')) (fun v5 _ => l0_1.length - (intOf v5).toNat)
    case atStart => exact ⟨0, rfl, ⟨by omega⟩, ⟨blk_drewN BK12.out _⟩, ⟨blk_drewN BK2.out _⟩, ⟨pw_below_drewN HB2.out _⟩⟩
    case round =>
      clear hczgb10 hczgb11 hczgb12 hczgb20 hczgb21 hczgb22 hfzgb10 hfzgb11 hfzgb12 hfzgb20 hfzgb21 hfzgb22
      obtain ⟨i, rfl, HI, BKr1, BKr2, HBr⟩ := hrel
      have hczgb10 : wr.cell? ⟨gb1, 0, none⟩ = some (.slice A0_0 l0_0.length c0_0) := (blk_cell BKr1.out 0).trans rfl
      have hfzgb10 := blk_frozen BKr1.out 0
      have hczgb11 : wr.cell? ⟨gb1, 1, none⟩ = some (.slice A0_1 l0_1.length c0_1) := (blk_cell BKr1.out 1).trans rfl
      have hfzgb11 := blk_frozen BKr1.out 1
      have hczgb12 : wr.cell? ⟨gb1, 2, none⟩ = some (.slice A0_2 l0_2.length c0_2) := (blk_cell BKr1.out 2).trans rfl
      have hfzgb12 := blk_frozen BKr1.out 2
      have hczgb20 : wr.cell? ⟨gb2, 0, none⟩ = some (.slice A1_0 l0_0.length c1_0) := (blk_cell BKr2.out 0).trans rfl
      have hfzgb20 := blk_frozen BKr2.out 0
      have hczgb21 : wr.cell? ⟨gb2, 1, none⟩ = some (.slice A1_1 l0_1.length c1_1) := (blk_cell BKr2.out 1).trans rfl
      have hfzgb21 := blk_frozen BKr2.out 1
      have hczgb22 : wr.cell? ⟨gb2, 2, none⟩ = some (.slice A1_2 l0_2.length c1_2) := (blk_cell BKr2.out 2).trans rfl
      have hfzgb22 := blk_frozen BKr2.out 2
      by_cases c : i < (l0_1.length : Int)
      · have cb : decide (i < (l0_1.length : Int)) = true := decide_eq_true c
        have p0 : 0 ≤ i := HI.out.1
        obtain ⟨ad, Ae, ce, e, hx0, hx1, hx2, hcl, hcr⟩ := at_T45 (Kd.C_below H01.out HBr.out) i p0 c
        cases e
        obtain ⟨ad', Ae', ce', e, hy0, hy1, hy2, hcl', hcr'⟩ := at_T45 (Kd.C_below H11.out HBr.out) i p0 c
        cases e
        have hm : (rd_T45 l0_1 i) ∈ l0_1 := by
          have h4 : i.toNat < l0_1.length := by omega
          rw [rd_T45, List.getD_eq_getElem?_getD, List.getElem?_eq_getElem h4]; exact List.getElem_mem h4
        obtain ⟨k3, hk3⟩ := ints_self (rd_T45 l0_1 i).f0 (HLR.out _ hm)
        have HK3 := Aside0.mk hk3
        have Q1 := Aside0.mk hcr
        have Q2 := Aside0.mk hcl
        have Q3 := Aside0.mk hcr'
        have Q4 := Aside0.mk hcl'
        have HC := Aside0.mk c
        have q0 := eq_true c
        clear c hm hk3 hcr hcl hcr' hcl'
        replace p0 := eq_true p0
        go_wp2
        go_quiet ((go_at_call 23; exact Calls.quiet_of ((examboardlaw34_ints.calls k3 Ae ce (rd_T45 l0_1 i).f0 Ae' ce' (rd_T45 l0_1 i).f0 true _ (Kd.C_drewN Q1.out _) Q2.out (Kd.C_drewN Q3.out _) Q4.out HK3.out).mono fun _ _ ⟨he, hd⟩ => ⟨he, hd.out⟩)))
        go_wp2
        go_roundw
        case rel =>
          have h2 := HI.out; have h3 := HC.out; have h5 := HL1.out
          have hw : wrap64 (i + 1) = i + 1 := by unfold wrap64; omega
          exact ⟨i + 1, by first | rfl | rw [hw], ⟨by omega⟩, ⟨by first | exact blk_drewN BKr1.out _ | exact BKr1.out⟩, ⟨by first | exact blk_drewN BKr2.out _ | exact BKr2.out⟩, ⟨by first | exact pw_below_drewN HBr.out _ | exact HBr.out⟩⟩
        case measure =>
          have h2 := HI.out; have h3 := HC.out; have h5 := HL1.out
          have hw : wrap64 (i + 1) = i + 1 := by unfold wrap64; omega
          simp [intOf, hw]; omega
      · have cb : decide (i < (l0_1.length : Int)) = false := decide_eq_false c
        clear c
        go_wp2
        go_ret
        exact ⟨rfl, HBr.out⟩

end Go.Proofs.Ythicnegcpafkkaa.All
