/- The reference's search: rest and hopeless. -/
import Derived.Test.YthicnegcpafkkaaAllx26
import Derived.Test.YthicnegcpafkkaaFrom
set_option linter.unusedVariables false
set_option linter.unusedSimpArgs false
namespace Go.Proofs.Ythicnegcpafkkaa.Search
open Go.RowKit Go.Proofs.YthicnegcpafkkaaW.PrintWords Go.Proofs.YthicnegcpafkkaaW.PrintLast Go.Proofs.YthicnegcpafkkaaW.PrintMore Go.Proofs.Ythicnegcpafkkaa.All Go.Proofs.Ythicnegcpafkkaa.Spec
def satR (r : S45) (fx : List Int) : Bool := decide (r.f1 ≤ r.f2) && (decide (loS r.f0 fx ≤ r.f2) && decide (hiS r.f0 fx ≥ r.f1))
theorem rcan_ev (r : S45) (fx : List Int) (hc : r.f0.all okCoef = true) (hn : r.f0.length ≤ 24) (hf : fx.length = r.f0.length) : Ev (fun k => examboardref34_can.f k r.f0 r.f1 r.f2 fx) (satR r fx) := by
  unfold examboardref34_can.f satR
  refine Ev.bind (rspan_ev r.f0 fx hc hn hf) ?_
  by_cases h1 : r.f1 ≤ r.f2
  · refine Ev.iteP h1 ?_
    by_cases h2 : loS r.f0 fx ≤ r.f2
    · refine Ev.iteP h2 ?_
      rw [decide_eq_true h1, decide_eq_true h2]
      exact Ev.now _
    · refine Ev.iteN h2 ?_
      rw [decide_eq_false h2, Bool.false_and, Bool.and_false]
      exact Ev.now _
  · refine Ev.iteN h1 ?_
    rw [decide_eq_false h1, Bool.false_and]
    exact Ev.now _
abbrev rsrch (gx : Nat) (A0 A1 A2 : Option Addr) (c0 c1 c2 cx : Nat) (n m f : Nat) (Ab : Option Addr) (nb cp : Nat) (top : Int) : Array Value :=
  #[.slice A0 n c0, .slice A1 m c1, .slice A2 f c2, .slice (some ⟨gx, 0, none⟩) n cx, .slice Ab nb cp, .int .i64 top]
set_option maxHeartbeats 8000000 in
set_option maxRecDepth 100000 in
theorem rest_walk (g gx : Nat) (A0 A1 A2 Ab : Option Addr) (c0 c1 c2 cx nb cp : Nat) (v : List Int) (rs : List S45) (fx : List Int) (top : Int) (pos : Nat) (w : World) (hP : ValidP v rs fx) (hpos : pos ≤ v.length)
    (hb : w.heap[g]? = some (.cells (rsrch gx A0 A1 A2 c0 c1 c2 cx v.length rs.length fx.length Ab nb cp top) 61 (0, 0)))
    (hV : Kd.C (Kd.int .i64) w A0 v.length v) (hF : Kd.C (Kd.int .i64) w A2 fx.length fx) :
    Calls Try.prog 47 #[.pointer (some ⟨g, 0, none⟩), .int .i64 (pos : Int)] w fun e w' => e = .returned (.int .i64 (hiS (v.drop pos) (fx.drop pos))) ∧ Below w.heap.size w w' := by
  have HP := Aside0.mk hP
  have HV := Aside0.mk hV
  have HF := Aside0.mk hF
  have HPOS := Aside0.mk hpos
  have HB := Aside0.mk (Below.refl w.heap.size w)
  have hc0 : w.cell? ⟨g, 0, none⟩ = some (.slice A0 v.length c0) := (blk_cell hb 0).trans rfl
  have hc2 : w.cell? ⟨g, 2, none⟩ = some (.slice A2 fx.length c2) := (blk_cell hb 2).trans rfl
  have HC0 := Aside0.mk hc0
  have HC2 := Aside0.mk hc2
  clear hP hV hF hb hpos hc0 hc2
  go_enter Try.func47, Try.ntmps47
  go_wp2
  go_loopg [5, 6] (v.length + 1) (fun kq v5 v6 w' => ∃ (i a : Int), v6 = .int .i64 i ∧ v5 = .int .i64 a ∧ Aside0 (0 ≤ i ∧ i ≤ v.length ∧ (v.length : Int) < i + kq) ∧ Aside0 (a + hiS (v.drop i.toNat) (fx.drop i.toNat) = hiS (v.drop pos) (fx.drop pos)) ∧ Aside0 (Below w.heap.size w w'))
  case atStart => exact ⟨pos, 0, rfl, rfl, ⟨by have := HPOS.out; omega⟩, ⟨by simp⟩, HB⟩
  case round =>
    obtain ⟨i, a, rfl, rfl, HI, HA, HB1⟩ := hrel
    have hc0 : wr.cell? ⟨g, 0, none⟩ = some (.slice A0 v.length c0) := (HB1.out.cell (World.block_lt_of_cell? w _ HC0.out)).trans HC0.out
    by_cases c : i < (v.length : Int)
    · have cb : decide (i < (v.length : Int)) = true := decide_eq_true c
      have hc2 : wr.cell? ⟨g, 2, none⟩ = some (.slice A2 fx.length c2) := (HB1.out.cell (World.block_lt_of_cell? w _ HC2.out)).trans HC2.out
      have i0 : 0 ≤ i := HI.out.1
      have hfl := HP.out.fixed
      have hnl := HP.out.vars
      obtain ⟨adv, e, hxv⟩ := Kd.at_int (Kd.C_below HV.out HB1.out) i i0 c
      cases e
      obtain ⟨adf, e, hxf⟩ := Kd.at_int (Kd.C_below HF.out HB1.out) i i0 (by omega)
      cases e
      have hlt : i.toNat < v.length := by omega
      have hcv := okCoef_le (all_rd HP.out.okV hlt)
      have h1 := lo_drop v fx HP.out.okV i.toNat (by omega) hnl
      have h2 := lo_drop v fx HP.out.okV pos HPOS.out hnl
      have h3 := HA.out
      have hstep : hiS (v.drop i.toNat) (fx.drop i.toNat) = thi (rd v i) (rd fx i) + hiS (v.drop (i.toNat + 1)) (fx.drop (i.toNat + 1)) := by
        rw [drop_rd hlt, drop_rd (l := fx) (by omega), show ((i.toNat : Nat) : Int) = i by omega]; rfl
      rw [show ((i.toNat : Nat) : Int) = i by omega] at hcv
      have hsucc : (i + 1).toNat = i.toNat + 1 := by omega
      have hw : wrap64 (i + 1) = i + 1 := by unfold wrap64; omega
      have HW := Aside0.mk hw
      have hk := fix_kind HP.out hlt
      rw [show ((i.toNat : Nat) : Int) = i by omega] at hk
      obtain ⟨k1, rfl⟩ : ∃ k1, gk = k1 + 1 := ⟨gk - 1, by have := HI.out; omega⟩
      by_cases hadd : rd fx i = 1 ∨ (rd fx i = -1 ∧ rd v i > 0)
      · have HN := Aside0.mk (show (a + rd v i) + hiS (v.drop (i + 1).toNat) (fx.drop (i + 1).toNat) = hiS (v.drop pos) (fx.drop pos) by
          rw [hsucc]
          have ht : thi (rd v i) (rd fx i) = rd v i := by
            unfold thi
            rcases hadd with q | ⟨q, q2⟩
            · rw [if_pos q]
            · rw [if_neg (by omega), if_pos q, if_pos (by omega)]
          omega)
        have HWA := Aside0.mk (show wrap64 (a + rd v i) = a + rd v i by exact wrap_in (by omega) (by omega))
        have p0 := eq_true i0
        have p1 := eq_true c
        have p2 : (i < (fx.length : Int)) = True := eq_true (by omega)
        have hadd' : (rd fx i == 1) = true ∨ ((rd fx i == 1) = false ∧ (rd fx i == -1) = true ∧ decide (rd v i > 0) = true) := by
          rcases hadd with q | ⟨q, q2⟩
          · exact .inl (beq_iff_eq.mpr q)
          · exact .inr ⟨beq_eq_false_iff_ne.mpr (by omega), beq_iff_eq.mpr q, decide_eq_true q2⟩
        have HC := Aside0.mk c
        clear i0 hfl hnl hcv h1 h2 h3 hstep hsucc hw hk hadd c hlt
        rcases hadd' with t1 | ⟨t1, t2, t3⟩
        all_goals
          go_wp2
          go_roundg k1
          case measure => omega
          case rel => exact ⟨i + 1, a + rd v i, by first | rfl | (simp [HW.out]; done), by first | rfl | (simp [HWA.out]; done), ⟨by have h := HI.out; have := HC.out; omega⟩, HN, HB1⟩
      · have HN := Aside0.mk (show a + hiS (v.drop (i + 1).toNat) (fx.drop (i + 1).toNat) = hiS (v.drop pos) (fx.drop pos) by
          rw [hsucc]
          have ht : thi (rd v i) (rd fx i) = 0 := by
            unfold thi
            split
            · exact absurd (Or.inl (by assumption)) hadd
            · split
              · split
                · exact absurd (Or.inr ⟨by assumption, by omega⟩) hadd
                · rfl
              · rfl
          omega)
        have p0 := eq_true i0
        have p1 := eq_true c
        have p2 : (i < (fx.length : Int)) = True := eq_true (by omega)
        have hadd' : ((rd fx i == 1) = false ∧ (rd fx i == -1) = false) ∨ ((rd fx i == 1) = false ∧ (rd fx i == -1) = true ∧ decide (rd v i > 0) = false) := by
          have n1 : (rd fx i == 1) = false := beq_eq_false_iff_ne.mpr (fun q => hadd (.inl q))
          by_cases q : rd fx i = -1
          · exact .inr ⟨n1, beq_iff_eq.mpr q, decide_eq_false (fun q2 => hadd (.inr ⟨q, q2⟩))⟩
          · exact .inl ⟨n1, beq_eq_false_iff_ne.mpr q⟩
        have HC := Aside0.mk c
        clear i0 hfl hnl hcv h1 h2 h3 hstep hsucc hw hk hadd c hlt
        rcases hadd' with ⟨t1, t2⟩ | ⟨t1, t2, t3⟩
        all_goals
          go_wp2
          go_roundg k1
          case measure => omega
          case rel => exact ⟨i + 1, a, by first | rfl | (simp [HW.out]; done), rfl, ⟨by have h := HI.out; have := HC.out; omega⟩, HN, HB1⟩
    · have cb : decide (i < (v.length : Int)) = false := decide_eq_false c
      have h1 := HA.out
      have hi : i.toNat = v.length := by have := HI.out; omega
      rw [hi, List.drop_eq_nil_of_le (Nat.le_refl _)] at h1
      have e0 : hiS [] (fx.drop v.length) = 0 := rfl
      rw [e0, Int.add_zero] at h1
      subst h1
      clear hi e0 c
      go_wp2
      go_ret
      exact ⟨rfl, HB1.out⟩
def hopRs (rs : List S45) (xs : List Int) : Bool := rs.any fun r => !satR r xs
theorem any_upto {rs : List S45} {p : S45 → Bool} {i : Nat} (hi : i < rs.length) : (rs.take (i + 1)).any p = ((rs.take i).any p || p (rd_T45 rs (i : Int))) := by
  rw [List.take_succ_eq_append_getElem hi, List.any_append, rdT_map hi]; simp
set_option maxHeartbeats 8000000 in
set_option maxRecDepth 100000 in
theorem rhop_walk (g gx : Nat) (A0 A1 A2 Ab : Option Addr) (c0 c1 c2 cx nb cp : Nat) (v : List Int) (rs : List S45) (fx xs : List Int) (top : Int) (pos : Int) (w : World) (hP : ValidP v rs fx) (hxl : xs.length = v.length) (hcx : v.length ≤ cx)
    (hb : w.heap[g]? = some (.cells (rsrch gx A0 A1 A2 c0 c1 c2 cx v.length rs.length fx.length Ab nb cp top) 61 (0, 0)))
    (hR : Kd.C k45 w A1 rs.length rs) (hX : Kd.C (Kd.int .i64) w (some ⟨gx, 0, none⟩) xs.length xs) (r : Bool) (hres : hopRs rs xs = r) :
    Calls Try.prog 46 #[.pointer (some ⟨g, 0, none⟩), .int .i64 pos] w fun e w' => e = .returned (.bool r) ∧ Below w.heap.size w w' := by
  have HP := Aside0.mk hP
  have HRES := Aside0.mk hres
  clear hres
  have HR := Aside0.mk hR
  have HX := Aside0.mk hX
  have HXL := Aside0.mk hxl
  have HCX := Aside0.mk hcx
  have HB := Aside0.mk (Below.refl w.heap.size w)
  have HG := Aside0.mk hb
  clear hP hR hX hxl hcx hb
  go_enter Try.func46, Try.ntmps46
  go_wp2
  go_loopw [5] (fun v5 w' => ∃ i : Int, v5 = .int .i64 i ∧ Aside0 (0 ≤ i ∧ i ≤ rs.length) ∧ Aside0 ((rs.take i.toNat).any (fun r => !satR r xs) = false) ∧ Aside0 (Below w.heap.size w w')) (fun v5 _ => rs.length - (intOf v5).toNat)
  case atStart => exact ⟨0, rfl, ⟨by omega⟩, ⟨by simp⟩, HB⟩
  case round =>
    obtain ⟨i, rfl, HI, HA, HB1⟩ := hrel
    have hgb := blk_below HG.out HB1.out
    have hc1 : wr.cell? ⟨g, 1, none⟩ = some (.slice A1 rs.length c1) := (blk_cell hgb 1).trans rfl
    by_cases c : i < (rs.length : Int)
    · have cb : decide (i < (rs.length : Int)) = true := decide_eq_true c
      have q0 : 0 ≤ i := HI.out.1
      have hit : i.toNat < rs.length := by omega
      have hii : ((i.toNat : Nat) : Int) = i := by omega
      obtain ⟨adr, Arr, crr, e, hx0, hx1, hx2, hx3, hx4⟩ := at_T45 (Kd.C_below HR.out HB1.out) i q0 c
      cases e
      have hmem : rd_T45 rs i ∈ rs := by
        rw [rd_T45, List.getD_eq_getElem?_getD, List.getElem?_eq_getElem hit]; exact List.getElem_mem hit
      obtain ⟨r1, r2, r3, r4⟩ := HP.out.row hmem
      obtain ⟨kc, hkc⟩ := (rcan_ev (rd_T45 rs i) xs r4 (by have := HP.out.vars; omega) (by have := HXL.out; omega)).rounds
      have hany := any_upto (p := fun r => !satR r xs) hit
      rw [hii, HA.out, Bool.false_or] at hany
      have hcall := fun W (hW : Below wr.heap.size wr W) => examboardref34_can.calls kc Arr crr (rd_T45 rs i).f0 (rd_T45 rs i).f1 (rd_T45 rs i).f2 (some ⟨gx, 0, none⟩) cx xs _ W (Kd.C_below hx4 hW) hx3 (Kd.C_below (Kd.C_below HX.out HB1.out) hW) (by have := HXL.out; have := HCX.out; omega) hkc
      rw [HXL.out] at hcall
      have HCALL := Aside0.mk (hcall wr.drew (below_drew (Below.refl _ _)))
      have hc3 : wr.cell? ⟨g, 3, none⟩ = some (.slice (some ⟨gx, 0, none⟩) v.length cx) := (blk_cell hgb 3).trans rfl
      have HANY := Aside0.mk hany
      have HII := Aside0.mk hii
      have HC := Aside0.mk c
      have HIT := Aside0.mk hit
      have HW := Aside0.mk (show wrap64 (i + 1) = i + 1 by unfold wrap64; have := HP.out.rows; omega)
      have q1 := eq_true c
      replace q0 := eq_true q0
      clear hgb hit hii hmem r1 r2 r3 r4 hkc hany hcall hx3 hx4 c
      cases hs : satR (rd_T45 rs i) xs with
      | true =>
        rw [hs] at HCALL HANY
        go_wp2_with fail
        go_region_with (go_at_call 43; (with_reducible refine HCALL.out.mono ?_); rintro e wy ⟨rfl, hb⟩; have HBY := Aside0.mk hb; clear hb)
        all_goals
          go_wp2
          go_roundw
          case rel =>
            refine ⟨i + 1, by first | rfl | (simp [HW.out]; done), ⟨by have h1 := HI.out; have h2 := HC.out; omega⟩, ⟨?_⟩, ⟨below_then (below_drew HB1.out) HB1.out.size HBY.out⟩⟩
            rw [show (i + 1).toNat = i.toNat + 1 by have := HI.out; omega]
            exact HANY.out
          case measure => have h1 := HI.out; have h2 := HC.out; simp [HW.out, intOf]; omega
      | false =>
        rw [hs] at HCALL HANY
        have hr : r = true := by
          rw [← HRES.out]
          unfold hopRs
          rw [← List.take_append_drop (i.toNat + 1) rs, List.any_append, HANY.out]; rfl
        subst hr
        go_wp2_with fail
        go_region_with (go_at_call 43; (with_reducible refine HCALL.out.mono ?_); rintro e wy ⟨rfl, hb⟩; have HBY := Aside0.mk hb; clear hb)
        all_goals
          go_wp2
          go_ret
          exact ⟨rfl, below_then (below_drew HB1.out) HB1.out.size HBY.out⟩
    · have cb : decide (i < (rs.length : Int)) = false := decide_eq_false c
      have hr : r = false := by
        rw [← HRES.out]
        have h1 := HA.out
        rw [List.take_of_length_le (by have := HI.out; omega)] at h1
        exact h1
      subst hr
      clear c hgb
      go_wp2
      go_ret
      exact ⟨rfl, HB1.out⟩
end Go.Proofs.Ythicnegcpafkkaa.Search
