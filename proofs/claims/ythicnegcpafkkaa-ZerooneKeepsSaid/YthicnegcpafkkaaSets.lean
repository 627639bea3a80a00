/- The search's state: what its parts leave alone; (*search).set and (*search).hopeless. -/
import Derived.Test.YthicnegcpafkkaaAllx0
import Derived.Test.YthicnegcpafkkaaAllx4
set_option linter.unusedVariables false
namespace Go.Proofs.Ythicnegcpafkkaa.Search
open Go.RowKit Go.Proofs.YthicnegcpafkkaaW.PrintWords Go.Proofs.Ythicnegcpafkkaa.All
structure But (S : Nat → Prop) (w W : World) : Prop where
  os : W.os = w.os
  tape : W.tape = w.tape
  output : W.output = w.output
  size : w.heap.size ≤ W.heap.size
  block : ∀ k, k < w.heap.size → ¬ S k → W.heap[k]? = w.heap[k]?
theorem But.refl (S : Nat → Prop) (w : World) : But S w w := ⟨rfl, rfl, rfl, Nat.le_refl _, fun _ _ _ => rfl⟩
theorem But.trans {S : Nat → Prop} {a b c : World} (h : But S a b) (k : But S b c) : But S a c :=
  ⟨k.os.trans h.os, k.tape.trans h.tape, k.output.trans h.output, Nat.le_trans h.size k.size, fun i hi hs => (k.block i (Nat.lt_of_lt_of_le hi h.size) hs).trans (h.block i hi hs)⟩
theorem But.of_below {S : Nat → Prop} {w W : World} (h : Below w.heap.size w W) : But S w W := ⟨h.os, h.tape, h.output, h.size, fun k hk _ => h.block k hk⟩
theorem But.below {S : Nat → Prop} {w W : World} {B : Nat} (h : But S w W) (hB : B ≤ w.heap.size) (hs : ∀ k, S k → B ≤ k) : Below B w W :=
  ⟨h.os, h.tape, h.output, h.size, fun k hk => h.block k (by omega) (fun q => by have := hs k q; omega)⟩
theorem But.set {S : Nat → Prop} {w W : World} (h : But S w W) {p : Addr} (hp : S p.block) (u : Value) : But S w (W.setCell p u) :=
  h.trans ⟨rfl, rfl, rfl, by simp [World.setCell], fun k hk hs => Below.heap_setCell W p u k (fun e => hs (e ▸ hp))⟩
theorem But.F {S ok : Nat → Prop} {w W : World} {α : Type} {d : Kd α} {A : Option Addr} {n : Nat} {xs : List α} (h : But S w W) (hf : Kd.F d w ok A n xs) (hok : ∀ k, ok k → ¬ S k) : Kd.F d W ok A n xs :=
  Kd.F_step hf (fun k hk hlt => h.block k hlt (hok k hk))
theorem But.blk {S : Nat → Prop} {w W : World} (h : But S w W) {g : Nat} {o : Obj} (hb : w.heap[g]? = some o) (hg : ¬ S g) : W.heap[g]? = some o := by
  have hlt : g < w.heap.size := by
    rcases Nat.lt_or_ge g w.heap.size with q | q
    · exact q
    · rw [Array.getElem?_eq_none q] at hb; cases hb
  rw [h.block g hlt hg]; exact hb
end Go.Proofs.Ythicnegcpafkkaa.Search
set_option linter.unusedVariables false
namespace Go.Proofs.Ythicnegcpafkkaa.Search
open Go.RowKit Go.Proofs.YthicnegcpafkkaaW.PrintWords Go.Proofs.Ythicnegcpafkkaa.All
theorem But.drew {S : Nat → Prop} {w W : World} (h : But S w W) : But S w W.drew := h.trans (But.of_below (below_drew (Below.refl _ _)))
abbrev ints (l : List Int) : Array Value := (l.map fun x => Value.int .i64 x).toArray
def addS (sg pos : Int) : List S45 → List Int → List Int
  | r :: rs, s :: ss => wrap64 (s + wrap64 (sg * rd r.f0 pos)) :: addS sg pos rs ss
  | _, ss => ss
theorem addS_length (sg pos : Int) : ∀ (rs : List S45) (ss : List Int), (addS sg pos rs ss).length = ss.length
  | [], ss => by cases ss <;> rfl
  | _ :: _, [] => rfl
  | r :: rs, s :: ss => by simp only [addS, List.length_cons]; rw [addS_length sg pos rs ss]
theorem addS_nil (sg pos : Int) (ss : List Int) : addS sg pos [] ss = ss := by cases ss <;> rfl
theorem addS_at (sg pos : Int) : ∀ (i : Nat) (rs : List S45) (ss : List Int), (addS sg pos (rs.take i) ss).getD i 0 = ss.getD i 0
  | 0, rs, ss => by rw [List.take_zero, addS_nil]
  | i + 1, [], ss => by rw [List.take_nil, addS_nil]
  | i + 1, r :: rs, [] => by simp [addS]
  | i + 1, r :: rs, s :: ss => by
    rw [List.take_succ_cons]
    simp only [addS, List.getD_cons_succ]
    exact addS_at sg pos i rs ss
theorem addS_step (sg pos : Int) : ∀ (i : Nat) (rs : List S45) (ss : List Int), i < rs.length → i < ss.length →
    addS sg pos (rs.take (i + 1)) ss = (addS sg pos (rs.take i) ss).set i (wrap64 (ss.getD i 0 + wrap64 (sg * rd (rs.getD i z45).f0 pos)))
  | 0, r :: rs, s :: ss, _, _ => by simp [addS, addS_nil]
  | i + 1, r :: rs, s :: ss, h1, h2 => by
    rw [List.take_succ_cons, List.take_succ_cons]
    simp only [addS, List.set_cons_succ, List.getD_cons_succ]
    rw [addS_step sg pos i rs ss (by simpa using h1) (by simpa using h2)]
end Go.Proofs.Ythicnegcpafkkaa.Search
set_option linter.unusedVariables false
set_option linter.unusedSimpArgs false
namespace Go.Proofs.Ythicnegcpafkkaa.Search
open Go.RowKit Go.Proofs.YthicnegcpafkkaaW.PrintWords Go.Proofs.YthicnegcpafkkaaW.PrintLast Go.Proofs.YthicnegcpafkkaaW.PrintMore Go.Proofs.Ythicnegcpafkkaa.All
set_option maxHeartbeats 8000000 in
set_option maxRecDepth 100000 in
theorem set_walk (g gs : Nat) (A0 A1 : Option Addr) (c0 c1 : Nat) (F lo hi rest x best : Value) (value most pos sg : Int) (v : List Int) (rs : List S45) (sums : List Int) (w : World)
    (hb : w.heap[g]? = some (.cells #[.slice A0 v.length c0, .slice A1 rs.length c1, F, lo, hi, rest, .slice (some ⟨gs, 0, none⟩) sums.length sums.length, x, .int .i64 value, best, .int .i64 most] 58 (0, 0)))
    (hs : w.heap[gs]? = some (.cells (ints sums) 3 (0, 0))) (hne : g ≠ gs)
    (hV : Kd.F (Kd.int .i64) w (fun k => k ≠ g ∧ k ≠ gs) A0 v.length v) (hR : Kd.F k45 w (fun k => k ≠ g ∧ k ≠ gs) A1 rs.length rs)
    (p0 : 0 ≤ pos) (p1 : pos < (v.length : Int)) (hl : sums.length = rs.length) (hc : ∀ r ∈ rs, r.f0.length = v.length) :
    Calls Try.prog 45 #[.pointer (some ⟨g, 0, none⟩), .int .i64 pos, .int .i64 sg] w fun e w' => e = .returned (.tuple #[]) ∧ But (fun k => k = g ∨ k = gs) w w' ∧
      w'.heap[g]? = some (.cells #[.slice A0 v.length c0, .slice A1 rs.length c1, F, lo, hi, rest, .slice (some ⟨gs, 0, none⟩) sums.length sums.length, x, .int .i64 (wrap64 (value + wrap64 (sg * rd v pos))), best, .int .i64 most] 58 (0, 0)) ∧
      w'.heap[gs]? = some (.cells (ints (addS sg pos rs sums)) 3 (0, 0)) := by
  have HB := Aside0.mk hb
  have HS := Aside0.mk hs
  have HV := Aside0.mk hV
  have HL := Aside0.mk hl
  clear hl
  have HR := Aside0.mk hR
  have hc0 : w.cell? ⟨g, 0, none⟩ = some (.slice A0 v.length c0) := (blk_cell HB.out 0).trans rfl
  have hc8 : w.cell? ⟨g, 8, none⟩ = some (.int .i64 value) := (blk_cell HB.out 8).trans rfl
  have hz8 := blk_frozen HB.out 8
  obtain ⟨ad, e, hx⟩ := Kd.at_int (Kd.F_now HV.out) pos p0 p1
  cases e
  clear hb hs hV hR
  replace p0 := eq_true p0
  replace p1 := eq_true p1
  go_enter Try.func45, Try.ntmps45
  go_wp2
  go_region
  have hb1 : ((w.setCell ⟨g, 8, none⟩ (.int .i64 (wrap64 (value + wrap64 (sg * rd v pos))))).drew).heap[g]? = some (.cells #[.slice (some ad) v.length c0, .slice A1 rs.length c1, F, lo, hi, rest, .slice (some ⟨gs, 0, none⟩) sums.length sums.length, x, .int .i64 (wrap64 (value + wrap64 (sg * rd v pos))), best, .int .i64 most] 58 (0, 0)) :=
    blk_drew (blk_put HB.out 8 _ rfl)
  have hk : But (fun k => k = g ∨ k = gs) w ((w.setCell ⟨g, 8, none⟩ (.int .i64 (wrap64 (value + wrap64 (sg * rd v pos))))).drew) := ((But.refl _ w).set (p := ⟨g, 8, none⟩) (.inl rfl) _).drew
  have hs1 : ((w.setCell ⟨g, 8, none⟩ (.int .i64 (wrap64 (value + wrap64 (sg * rd v pos))))).drew).heap[gs]? = some (.cells (ints sums) 3 (0, 0)) := blk_drew ((Below.heap_setCell w _ _ _ (fun e => hne e.symm)).trans HS.out)
  generalize (w.setCell ⟨g, 8, none⟩ (.int .i64 (wrap64 (value + wrap64 (sg * rd v pos))))).drew = w1 at hb1 hk hs1 ⊢
  have hc1 : w1.cell? ⟨g, 1, none⟩ = some (.slice A1 rs.length c1) := (blk_cell hb1 1).trans rfl
  have HB1 := Aside0.mk hb1
  have HK := Aside0.mk hk
  have HS1 := Aside0.mk hs1
  clear hb1 hk hs1 HB HS hc0 hc8 hz8 hx
  go_wp2
  go_loopw [31] (fun v31 w' => ∃ i : Int, v31 = .int .i64 i ∧ Aside0 (0 ≤ i ∧ i ≤ rs.length) ∧
    Aside0 (w'.heap[g]? = some (.cells #[.slice (some ad) v.length c0, .slice A1 rs.length c1, F, lo, hi, rest, .slice (some ⟨gs, 0, none⟩) sums.length sums.length, x, .int .i64 (wrap64 (value + wrap64 (sg * rd v pos))), best, .int .i64 most] 58 (0, 0))) ∧
    Aside0 (w'.heap[gs]? = some (.cells (ints (addS sg pos (rs.take i.toNat) sums)) 3 (0, 0))) ∧ Aside0 (But (fun k => k = g ∨ k = gs) w w')) (fun v31 _ => rs.length - (intOf v31).toNat)
  case atStart => exact ⟨0, rfl, ⟨by omega⟩, HB1, ⟨by simpa [addS_nil] using HS1.out⟩, HK⟩
  case round =>
    obtain ⟨i, rfl, HI, HB2, HS2, HK2⟩ := hrel
    by_cases c : i < (rs.length : Int)
    · have cb : decide (i < (rs.length : Int)) = true := decide_eq_true c
      have q0 : 0 ≤ i := HI.out.1
      have hR2 := HK2.out.F HR.out (fun k hk hs => hs.elim hk.1 hk.2)
      obtain ⟨adr, Ar, cr, e, hx⟩ := at_T45 (Kd.F_now hR2) i q0 c
      cases e
      obtain ⟨hx0, hx1, hx2, hx3, hx4⟩ := hx
      have q1 := eq_true c
      replace q0 := eq_true q0
      have hi := HI.out
      have hl := HL.out
      have hit : i.toNat < rs.length := by omega
      have hmem : rd_T45 rs i ∈ rs := by
        rw [rd_T45, List.getD_eq_getElem?_getD, List.getElem?_eq_getElem hit]; exact List.getElem_mem hit
      have hcl : (rd_T45 rs i).f0.length = v.length := hc _ hmem
      rw [hcl] at hx0 hx3 hx4
      have HCL := Aside0.mk hcl
      clear hcl
      have hbg : (wr.alloc (.cells #[.slice Ar v.length cr, .int .i64 (rd_T45 rs i).f1, .int .i64 (rd_T45 rs i).f2] 45 (0, 0))).heap[g]? = _ := blk_alloc HB2.out _
      have hbs : (wr.alloc (.cells #[.slice Ar v.length cr, .int .i64 (rd_T45 rs i).f1, .int .i64 (rd_T45 rs i).f2] 45 (0, 0))).heap[gs]? = _ := blk_alloc HS2.out _
      have hbr : (wr.alloc (.cells #[.slice Ar v.length cr, .int .i64 (rd_T45 rs i).f1, .int .i64 (rd_T45 rs i).f2] 45 (0, 0))).heap[wr.heap.size]? = some (.cells #[.slice Ar v.length cr, .int .i64 (rd_T45 rs i).f1, .int .i64 (rd_T45 rs i).f2] 45 (0, 0)) := Array.getElem?_push_size
      have hk3 : But (fun k => k = g ∨ k = gs) w (wr.alloc (.cells #[.slice Ar v.length cr, .int .i64 (rd_T45 rs i).f1, .int .i64 (rd_T45 rs i).f2] 45 (0, 0))) := HK2.out.trans (But.of_below (below_alloc (Below.refl _ _) _))
      obtain ⟨adc, ec, hxc⟩ := Kd.at_int (Kd.C_alloc hx4 (.cells #[.slice Ar v.length cr, .int .i64 (rd_T45 rs i).f1, .int .i64 (rd_T45 rs i).f2] 45 (0, 0))) pos (of_eq_true p0) (of_eq_true p1)
      cases ec
      go_wp2
      generalize wr.alloc (.cells #[.slice (some adc) v.length cr, .int .i64 (rd_T45 rs i).f1, .int .i64 (rd_T45 rs i).f2] 45 (0, 0)) = w3 at hbg hbs hbr hk3 hxc ⊢
      have hc6 : w3.cell? ⟨g, 6, none⟩ = some (.slice (some ⟨gs, 0, none⟩) sums.length sums.length) := (blk_cell hbg 6).trans rfl
      have hr0 : w3.cell? ⟨wr.heap.size, 0, none⟩ = some (.slice (some adc) v.length cr) := (blk_cell hbr 0).trans rfl
      have hsi : w3.cell? ⟨gs, i.toNat, none⟩ = some (.int .i64 (rd sums i)) := by
        refine (blk_cell hbs i.toNat).trans ?_
        have h1 := addS_at sg pos i.toNat rs sums
        have h2 := addS_length sg pos (rs.take i.toNat) sums
        have h3 : i.toNat < (addS sg pos (rs.take i.toNat) sums).length := by omega
        rw [List.getD_eq_getElem?_getD, List.getElem?_eq_getElem h3] at h1
        simp only [ints, List.getElem?_toArray, List.getElem?_map, List.getElem?_eq_getElem h3, Option.map_some, rd]
        exact congrArg (fun z => some (Value.int .i64 z)) h1
      have hfz : w3.frozen? ⟨gs, i.toNat, none⟩ = false := by
        exact blk_frozen hbs _
      have z1 : (i < (sums.length : Int)) = True := eq_true (by omega)
      have z2 : (pos < (v.length : Int)) = True := eq_true (of_eq_true p1)
      clear hl
      have HBG := Aside0.mk hbg
      have HBS := Aside0.mk hbs
      have HK3 := Aside0.mk hk3
      clear hbg hbs hbr hk3 hx0 hx1 hx2 hx3 hx4
      go_region
      have e1 : (ints (addS sg pos (rs.take i.toNat) sums)).setIfInBounds i.toNat (.int .i64 (wrap64 (rd sums i + wrap64 (sg * rd (rd_T45 rs i).f0 pos)))) = ints (addS sg pos (rs.take (i + 1).toNat) sums) := by
        rw [show (i + 1).toNat = i.toNat + 1 by omega, addS_step sg pos i.toNat rs sums hit (by rw [HL.out]; exact hit)]
        simp only [ints, List.setIfInBounds_toArray, List.map_set]
        rfl
      have HE := Aside0.mk (blk_drew (blk_put HBS.out i.toNat _ e1))
      have HG := Aside0.mk (blk_drew ((Below.heap_setCell w3 ⟨gs, i.toNat, none⟩ (.int .i64 (wrap64 (rd sums i + wrap64 (sg * rd (rd_T45 rs i).f0 pos)))) g hne).trans HBG.out))
      have HK4 := Aside0.mk ((HK3.out.set (p := ⟨gs, i.toNat, none⟩) (.inr rfl) (.int .i64 (wrap64 (rd sums i + wrap64 (sg * rd (rd_T45 rs i).f0 pos))))).drew)
      have HW := Aside0.mk (show wrap64 (i + 1) = i + 1 by unfold wrap64; have := (Kd.F_now hR2).2.1; omega)
      clear e1
      go_wp2
      go_roundw
      case rel => exact ⟨i + 1, by first | rfl | (simp [HW.out]; done), ⟨by omega⟩, HG, HE, HK4⟩
      case measure => simp [HW.out, intOf]; omega
    · have cb : decide (i < (rs.length : Int)) = false := decide_eq_false c
      have HI2 := HI.out
      have e2 : rs.take i.toNat = rs := List.take_of_length_le (by omega)
      have HS3 := HS2.out
      rw [e2] at HS3
      have HS4 := Aside0.mk HS3
      clear HS3 e2
      go_wp2
      go_end0
      exact ⟨rfl, HK2.out, HB2.out, HS4.out⟩
end Go.Proofs.Ythicnegcpafkkaa.Search
set_option linter.unusedVariables false
set_option linter.unusedSimpArgs false
namespace Go.Proofs.Ythicnegcpafkkaa.Search
open Go.RowKit Go.Proofs.YthicnegcpafkkaaW.PrintWords Go.Proofs.YthicnegcpafkkaaW.PrintLast Go.Proofs.YthicnegcpafkkaaW.PrintMore Go.Proofs.Ythicnegcpafkkaa.All
theorem ints_cell {w : World} {g t : Nat} {l : List Int} (h : w.heap[g]? = some (.cells (ints l) t (0, 0))) (i : Int) (h0 : 0 ≤ i) (h1 : i < (l.length : Int)) : w.cell? ⟨g, i.toNat, none⟩ = some (.int .i64 (rd l i)) := by
  refine (blk_cell h i.toNat).trans ?_
  have h3 : i.toNat < l.length := by omega
  simp only [ints, List.getElem?_toArray, List.getElem?_map, List.getElem?_eq_getElem h3, Option.map_some, rd, List.getD_eq_getElem?_getD, Option.getD_some]
/-- A row that cannot be met from the variable at on. -/
def hopRow (sums : List Int) (los his : List (List Int)) (rs : List S45) (pos i : Int) : Bool :=
  decide (wrap64 (rd sums i + rd (rd_L1 los i) pos) > (rd_T45 rs i).f2) || decide (wrap64 (rd sums i + rd (rd_L1 his i) pos) < (rd_T45 rs i).f1)
def hopBest (Ab : Option Addr) (value most : Int) (rest : List Int) (pos : Int) : Bool := !Ab.isNone && decide (wrap64 (value + rd rest pos) ≤ most)
def hopS (Ab : Option Addr) (value most : Int) (rest sums : List Int) (los his : List (List Int)) (rs : List S45) (pos : Int) : Bool :=
  hopBest Ab value most rest pos || (List.range rs.length).any (fun i => hopRow sums los his rs pos (i : Int))
set_option maxHeartbeats 8000000 in
set_option maxRecDepth 100000 in
theorem hop_walk (g gs : Nat) (A0 A1 Al Ah Ar Ab : Option Addr) (nv c0 c1 cl ch cr nb cp : Nat) (F x : Value) (value most pos : Int) (rs : List S45) (los his : List (List Int)) (rest sums : List Int) (r : Bool) (w : World)
    (hb : w.heap[g]? = some (.cells #[.slice A0 nv c0, .slice A1 rs.length c1, F, .slice Al los.length cl, .slice Ah his.length ch, .slice Ar rest.length cr, .slice (some ⟨gs, 0, none⟩) sums.length sums.length, x, .int .i64 value, .slice Ab nb cp, .int .i64 most] 58 (0, 0)))
    (hs : w.heap[gs]? = some (.cells (ints sums) 3 (0, 0)))
    (hR : Kd.C k45 w A1 rs.length rs) (hL : Kd.C (Kd.slice 3 (Kd.int .i64)) w Al los.length los) (hH : Kd.C (Kd.slice 3 (Kd.int .i64)) w Ah his.length his) (hr : Kd.C (Kd.int .i64) w Ar rest.length rest)
    (p0 : 0 ≤ pos) (p1 : pos < (rest.length : Int)) (hlen : sums.length = rs.length ∧ los.length = rs.length ∧ his.length = rs.length) (hll : ∀ l ∈ los, l.length = rest.length) (hhl : ∀ l ∈ his, l.length = rest.length)
    (h : hopS Ab value most rest sums los his rs pos = r) :
    Calls Try.prog 44 #[.pointer (some ⟨g, 0, none⟩), .int .i64 pos] w fun e w' => e = .returned (.bool r) ∧ Below w.heap.size w w' := by
  have HB := Aside0.mk hb
  have HS := Aside0.mk hs
  have HL := Aside0.mk hL
  have HH := Aside0.mk hH
  have HN := Aside0.mk hlen
  have HR := Aside0.mk hR
  have HRS := Aside0.mk h
  have HQ := Aside0.mk (Below.refl w.heap.size w)
  have hc1 : w.cell? ⟨g, 1, none⟩ = some (.slice A1 rs.length c1) := (blk_cell HB.out 1).trans rfl
  have hc5 : w.cell? ⟨g, 5, none⟩ = some (.slice Ar rest.length cr) := (blk_cell HB.out 5).trans rfl
  have hc8 : w.cell? ⟨g, 8, none⟩ = some (.int .i64 value) := (blk_cell HB.out 8).trans rfl
  have hc9 : w.cell? ⟨g, 9, none⟩ = some (.slice Ab nb cp) := (blk_cell HB.out 9).trans rfl
  have hc10 : w.cell? ⟨g, 10, none⟩ = some (.int .i64 most) := (blk_cell HB.out 10).trans rfl
  obtain ⟨ad, e, hx⟩ := Kd.at_int hr pos p0 p1
  cases e
  clear hb hs hL hH hlen hR h
  replace p0 := eq_true p0
  replace p1 := eq_true p1
  cases hbest : hopBest Ab value most rest pos with
  | true =>
    have hr : r = true := by rw [← HRS.out]; unfold hopS; rw [hbest]; rfl
    subst hr
    unfold hopBest at hbest
    cases Ab with
    | none => exact absurd hbest (by simp)
    | some ab =>
      have t1 : decide (wrap64 (value + rd rest pos) ≤ most) = true := by simpa using hbest
      clear hbest
      have hq := fun w' => run_neq_slice_nil_any (P := Try.prog) w' 22 3 (some ab) nb cp 0 0 Try.underlying22
      go_enter Try.func44, Try.ntmps44
      go_wp2
      go_quiet (fail)
      go_wp2
      go_ret
      exact ⟨rfl, pw_below_drewN HQ.out _⟩
  | false =>
    have hany : (List.range rs.length).any (fun i => hopRow sums los his rs pos (i : Int)) = r := by rw [← HRS.out]; unfold hopS; rw [hbest, Bool.false_or]
    have HA := Aside0.mk hany
    clear hany
    have HLL := Aside0.mk hll
    have HHL := Aside0.mk hhl
    clear hll hhl
    have hrsmem : ∀ i : Nat, i < rs.length → rd_T45 rs (i : Int) ∈ rs := fun i hit => by
      rw [rd_T45, Int.toNat_natCast, List.getD_eq_getElem?_getD, List.getElem?_eq_getElem hit]; exact List.getElem_mem hit
    clear hrsmem
    unfold hopBest at hbest
    have hq := fun w' => run_neq_slice_nil_any (P := Try.prog) w' 22 3 Ab nb cp 0 0 Try.underlying22
    have hbest' : Ab = none ∨ ∃ ab, Ab = some ab ∧ decide (wrap64 (value + rd rest pos) ≤ most) = false := by
      cases Ab with
      | none => exact .inl rfl
      | some ab => exact .inr ⟨ab, rfl, by simpa using hbest⟩
    clear hbest
    clear HRS
    rcases hbest' with rfl | ⟨ab, rfl, t1⟩
    all_goals
      go_enter Try.func44, Try.ntmps44
      go_wp2
      go_quiet (fail)
      go_wp2
      go_loopw [37] (fun v37 w' => ∃ i : Int, v37 = .int .i64 i ∧ Aside0 (0 ≤ i ∧ i ≤ rs.length) ∧ Aside0 (∀ j : Nat, (j : Int) < i → hopRow sums los his rs pos (j : Int) = false) ∧ Aside0 (Below w.heap.size w w')) (fun v37 _ => rs.length - (intOf v37).toNat)
      case atStart => exact ⟨0, rfl, ⟨by omega⟩, ⟨fun j hj => by omega⟩, ⟨pw_below_drewN HQ.out _⟩⟩
      case round =>
        obtain ⟨i, rfl, HI, HJ, HB2⟩ := hrel
        by_cases c : i < (rs.length : Int)
        · have cb : decide (i < (rs.length : Int)) = true := decide_eq_true c
          have q0 : 0 ≤ i := HI.out.1
          have hn := HN.out
          obtain ⟨adr, Arr, crr, e, hx0, hx1, hx2, hx3, hx4⟩ := at_T45 HR.out i q0 c
          cases e
          obtain ⟨adl, All, cll, e, hl0, hl1, hl2⟩ := at_L1 HL.out i q0 (by omega)
          cases e
          obtain ⟨adh, Ahh, chh, e, hh0, hh1, hh2⟩ := at_L1 HH.out i q0 (by omega)
          cases e
          have el : (rd_L1 los i).length = rest.length := HLL.out _ (by
            rw [rd_L1, List.getD_eq_getElem?_getD, List.getElem?_eq_getElem (by omega : i.toNat < los.length)]; exact List.getElem_mem _)
          have eh : (rd_L1 his i).length = rest.length := HHL.out _ (by
            rw [rd_L1, List.getD_eq_getElem?_getD, List.getElem?_eq_getElem (by omega : i.toNat < his.length)]; exact List.getElem_mem _)
          rw [el] at hl0 hl1 hl2
          rw [eh] at hh0 hh1 hh2
          obtain ⟨adl2, e, hl3⟩ := Kd.at_int hl2 pos (of_eq_true p0) (of_eq_true p1)
          cases e
          obtain ⟨adh2, e, hh3⟩ := Kd.at_int hh2 pos (of_eq_true p0) (of_eq_true p1)
          cases e
          have hs3 := ints_cell HS.out i q0 (by omega)
          have hc6 : w.cell? ⟨g, 6, none⟩ = some (.slice (some ⟨gs, 0, none⟩) sums.length sums.length) := (blk_cell HB.out 6).trans rfl
          have hc3 : w.cell? ⟨g, 3, none⟩ = some (.slice (some adl) los.length cl) := (blk_cell HB.out 3).trans rfl
          have hc4 : w.cell? ⟨g, 4, none⟩ = some (.slice (some adh) his.length ch) := (blk_cell HB.out 4).trans rfl
          have up : ∀ {p : Addr} {v : Value}, w.cell? p = some v → wr.cell? p = some v := fun h => (HB2.out.cell (World.block_lt_of_cell? w _ h)).trans h
          replace hx0 := up hx0
          replace hx1 := up hx1
          replace hx2 := up hx2
          have q1 := eq_true c
          replace q0 := eq_true q0
          have z1 : (i < (sums.length : Int)) = True := eq_true (by omega)
          have z2 : (i < (los.length : Int)) = True := eq_true (by omega)
          have z3 : (i < (his.length : Int)) = True := eq_true (by omega)
          have HB3 := Aside0.mk (below_alloc HB2.out (.cells #[.slice Arr (rd_T45 rs i).f0.length crr, .int .i64 (rd_T45 rs i).f1, .int .i64 (rd_T45 rs i).f2] 45 (0, 0)))
          have hbr : (wr.alloc (.cells #[.slice Arr (rd_T45 rs i).f0.length crr, .int .i64 (rd_T45 rs i).f1, .int .i64 (rd_T45 rs i).f2] 45 (0, 0))).heap[wr.heap.size]? = some (.cells #[.slice Arr (rd_T45 rs i).f0.length crr, .int .i64 (rd_T45 rs i).f1, .int .i64 (rd_T45 rs i).f2] 45 (0, 0)) := Array.getElem?_push_size
          have HBR := Aside0.mk hbr
          have HH1 := Aside0.mk hl0
          have HL1 := Aside0.mk hh0
          have HL3 := Aside0.mk hl3
          have HH3 := Aside0.mk hh3
          have HS3 := Aside0.mk hs3
          have HC6 := Aside0.mk hc6
          have HC3 := Aside0.mk hc3
          have HC4 := Aside0.mk hc4
          clear hbr hn el eh hl0 hh0 hl1 hl2 hh1 hh2 hl3 hh3 hs3 hc6 hc3 hc4 up hx3 hx4
          go_wp2
          generalize wr.alloc (.cells #[.slice Arr (rd_T45 rs i).f0.length crr, .int .i64 (rd_T45 rs i).f1, .int .i64 (rd_T45 rs i).f2] 45 (0, 0)) = w3 at HB3 HBR ⊢
          have up : ∀ {p : Addr} {v : Value}, w.cell? p = some v → w3.cell? p = some v := fun h => (HB3.out.cell (World.block_lt_of_cell? w _ h)).trans h
          have hl0 := up HL1.out
          have hh0 := up HH1.out
          have hl3 := up HL3.out
          have hh3 := up HH3.out
          have hs3 := up HS3.out
          have hc6 := up HC6.out
          have hc3 := up HC3.out
          have hc4 := up HC4.out
          have hr1 : w3.cell? ⟨wr.heap.size, 1, none⟩ = some (.int .i64 (rd_T45 rs i).f1) := (blk_cell HBR.out 1).trans rfl
          have hr2 : w3.cell? ⟨wr.heap.size, 2, none⟩ = some (.int .i64 (rd_T45 rs i).f2) := (blk_cell HBR.out 2).trans rfl
          clear up
          clear hx0 hx1 hx2 hc1 hc5 hc8 hc9 hc10 hx
          have hsome : hopRow sums los his rs pos i = true → r = true := fun h => by
            rw [← HA.out, List.any_eq_true]
            have h2 := HI.out
            exact ⟨i.toNat, List.mem_range.2 (by omega), by rw [show ((i.toNat : Nat) : Int) = i by omega]; exact h⟩
          by_cases d1 : wrap64 (rd sums i + rd (rd_L1 los i) pos) > (rd_T45 rs i).f2
          · have d1b : decide (wrap64 (rd sums i + rd (rd_L1 los i) pos) > (rd_T45 rs i).f2) = true := decide_eq_true d1
            have hr : r = true := hsome (by unfold hopRow; rw [d1b]; rfl)
            subst hr
            clear hsome d1
            go_wp2
            go_quiet (fail)
            go_wp2
            go_ret
            exact ⟨rfl, pw_below_drewN HB3.out _⟩
          · have d1b : decide (wrap64 (rd sums i + rd (rd_L1 los i) pos) > (rd_T45 rs i).f2) = false := decide_eq_false d1
            by_cases d2 : wrap64 (rd sums i + rd (rd_L1 his i) pos) < (rd_T45 rs i).f1
            · have d2b : decide (wrap64 (rd sums i + rd (rd_L1 his i) pos) < (rd_T45 rs i).f1) = true := decide_eq_true d2
              have hr : r = true := hsome (by unfold hopRow; rw [d1b, d2b]; rfl)
              subst hr
              clear hsome d1 d2
              go_wp2
              go_quiet (fail)
              go_wp2
              go_ret
              exact ⟨rfl, pw_below_drewN HB3.out _⟩
            · have d2b : decide (wrap64 (rd sums i + rd (rd_L1 his i) pos) < (rd_T45 rs i).f1) = false := decide_eq_false d2
              have hno : hopRow sums los his rs pos i = false := by unfold hopRow; rw [d1b, d2b]; rfl
              have HNO := Aside0.mk hno
              clear hsome d1 d2 hno
              go_wp2
              go_quiet (fail)
              go_wp2
              have hw : wrap64 (i + 1) = i + 1 := by
                have h1 := HR.out.2.1; have h2 := HI.out; unfold wrap64; omega
              have HW := Aside0.mk hw
              clear hw
              go_roundw
              case rel =>
                refine ⟨i + 1, by first | rfl | (simp [HW.out]; done), ⟨by have := HI.out; omega⟩, ⟨fun j hj => ?_⟩, ⟨pw_below_drewN HB3.out _⟩⟩
                by_cases e : (j : Int) = i
                · rw [e]; exact HNO.out
                · exact HJ.out j (by omega)
              case measure => have h1 := HI.out; have h2 := of_decide_eq_true cb; simp [HW.out, intOf]; omega
        · have cb : decide (i < (rs.length : Int)) = false := decide_eq_false c
          have hr : r = false := by
            rw [← HA.out, List.any_eq_false]
            intro j hj
            have h2 := HI.out
            rw [HJ.out j (by have := List.mem_range.1 hj; omega)]; simp
          subst hr
          go_wp2
          go_ret
          exact ⟨rfl, HB2.out⟩
end Go.Proofs.Ythicnegcpafkkaa.Search
