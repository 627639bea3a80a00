/- The reference's from: the search below one assignment of the first variables. -/
import Derived.Test.YthicnegcpafkkaaAllx21
import Derived.Test.YthicnegcpafkkaaRWalk
set_option linter.unusedVariables false
set_option linter.unusedSimpArgs false
namespace Go.Proofs.Ythicnegcpafkkaa.Search
open Go.RowKit Go.Proofs.YthicnegcpafkkaaW.PrintWords Go.Proofs.YthicnegcpafkkaaW.PrintLast Go.Proofs.YthicnegcpafkkaaW.PrintMore Go.Proofs.Ythicnegcpafkkaa.All Go.Proofs.Ythicnegcpafkkaa.Spec
theorem rbelow_both {B : Nat} {w w1 w2 : World} (h : Below B w w1) (k : Below B w1 w2) : Below B w w2 :=
  ⟨k.os.trans h.os, k.tape.trans h.tape, k.output.trans h.output, Nat.le_trans h.size k.size, fun i hi => (k.block i hi).trans (h.block i hi)⟩
theorem rbelow_low {B C : Nat} {w W : World} (h : Below C w W) (hB : B ≤ C) : Below B w W := ⟨h.os, h.tape, h.output, h.size, fun k hk => h.block k (Nat.lt_of_lt_of_le hk hB)⟩
abbrev Two (g gx k : Nat) : Prop := k = g ∨ k = gx
structure RFrame (S : Nat → Prop) (A0 A1 A2 : Option Addr) (v : List Int) (rs : List S45) (fx : List Int) (w : World) : Prop where
  V : Kd.F (Kd.int .i64) w (fun k => ¬ S k) A0 v.length v
  R : Kd.F k45 w (fun k => ¬ S k) A1 rs.length rs
  F : Kd.F (Kd.int .i64) w (fun k => ¬ S k) A2 fx.length fx
theorem RFrame.but {S : Nat → Prop} {A0 A1 A2 : Option Addr} {v : List Int} {rs : List S45} {fx : List Int} {w W : World} (h : RFrame S A0 A1 A2 v rs fx w) (k : But S w W) : RFrame S A0 A1 A2 v rs fx W :=
  ⟨k.F h.V (fun _ q => q), k.F h.R (fun _ q => q), k.F h.F (fun _ q => q)⟩
/-- The row x of the reference's search: numbers, and what spare cells lie behind them. -/
def xrow (xs : List Int) (tl : Array Value) : Array Value := ints xs ++ tl
theorem xrow_cell (xs : List Int) (tl : Array Value) {i : Nat} (h : i < xs.length) : (xrow xs tl)[i]? = some (.int .i64 (rd xs (i : Int))) := by
  unfold xrow
  rw [Array.getElem?_append_left (by simpa [ints] using h), rd_nat]
  simp [ints, List.getD_eq_getElem?_getD, h]
theorem xrow_set (xs : List Int) (tl : Array Value) {i : Nat} (h : i < xs.length) (a : Int) : (xrow xs tl).setIfInBounds i (.int .i64 a) = xrow (xs.set i a) tl := by
  unfold xrow
  rw [Array.setIfInBounds_append_left (by simpa [ints] using h)]
  simp [ints, List.map_set]
theorem C_xrow {w : World} {g : Nat} {t : TypeId} {xs : List Int} {tl : Array Value} (h : w.heap[g]? = some (.cells (xrow xs tl) t (0, 0))) (hm : xs.length ≤ 9223372036854775807) : Kd.C (Kd.int .i64) w (some ⟨g, 0, none⟩) xs.length xs :=
  ⟨rfl, hm, fun _ => ⟨⟨g, 0, none⟩, rfl, fun j p hp => ⟨[.int .i64 p], rfl, rfl, fun i u hu => by
    match i, hu with
    | 0, hu =>
      cases hu
      obtain ⟨hlt, hj⟩ := List.getElem?_eq_some_iff.1 hp
      have h1 : w.cell? ⟨g, j, none⟩ = (xrow xs tl)[j]? := blk_cell h j
      rw [xrow_cell xs tl hlt, rd_nat, List.getD_eq_getElem?_getD, hp] at h1
      have h2 : (Addr.mk g 0 none).add (j * 1 + 0) = ⟨g, j, none⟩ := by
        cases j with
        | zero => rfl
        | succ j => simp [Addr.add]
      show w.cell? ((Addr.mk g 0 none).add (j * 1 + 0)) = _
      rw [h2]
      exact h1⟩⟩⟩
def xmid (x fx : List Int) : List Int := x ++ fx.drop x.length
theorem xmid_length {x fx : List Int} {n : Nat} (h : x.length ≤ n) (hf : fx.length = n) : (xmid x fx).length = n := by simp [xmid]; omega
theorem xmid_set {x fx : List Int} (h : x.length < fx.length) (a c : Int) : ((xmid x fx).set x.length c).set x.length a = xmid (x ++ [a]) fx := by
  rw [List.set_set]
  unfold xmid
  rw [drop_rd h]
  simp [List.set_append]
theorem xmid_set1 {x fx : List Int} (h : x.length < fx.length) (a : Int) : (xmid x fx).set x.length a = xmid (x ++ [a]) fx := by
  unfold xmid
  rw [drop_rd h]
  simp [List.set_append]
theorem xmid_back {x fx : List Int} (h : x.length < fx.length) (c : Int) : ((xmid x fx).set x.length c).set x.length (rd fx (x.length : Int)) = xmid x fx := by
  rw [List.set_set]
  unfold xmid
  rw [drop_rd h]
  simp [List.set_append]
theorem xmid_at {x fx : List Int} (h : x.length < fx.length) : rd (xmid x fx) (x.length : Int) = rd fx (x.length : Int) := by
  rw [rd_nat]
  unfold xmid
  rw [drop_rd h]
  simp
theorem xmid_self {x fx : List Int} (h : x.length < fx.length) : (xmid x fx).set x.length (rd fx (x.length : Int)) = xmid x fx := by
  unfold xmid
  rw [drop_rd h]
  simp [List.set_append]
/-- What is best before the round of vv. -/
def bAt (b b1 b2 : Best) (vv : Int) : Best := if vv = 1 then b else if vv = 0 then b1 else b2
def hopR (v : List Int) (rs : List S45) (fx : List Int) (x : List Int) (b : Best) : Bool := hopRs rs (xmid x fx) || noBetter v fx x b
theorem val_any {v : List Int} {rs : List S45} {fx : List Int} (h : ValidP v rs fx) {x : List Int} (hx : x.all isBit = true) (hl : x.length < v.length) {c : Int} (hc : c = 0 ∨ c = 1) : wrap64 (dotS v x + wrap64 (c * rd v (x.length : Int))) = dotS v (x ++ [c]) := by
  have h1 := dot_bound v x h.okV hx
  have h2 := okCoef_le (all_rd h.okV hl)
  have h3 := h.vars
  rw [dot_snoc v x c hl, Int.mul_comm]
  rcases hc with rfl | rfl
  · rw [wrap_in (n := rd v (x.length : Int) * 0) (by omega) (by omega), wrap_in (by omega) (by omega)]
  · rw [wrap_in (n := rd v (x.length : Int) * 1) (by omega) (by omega), wrap_in (by omega) (by omega)]
def RSpec (g gx : Nat) (A0 A1 A2 : Option Addr) (c0 c1 c2 cx : Nat) (tl : Array Value) (v : List Int) (rs : List S45) (fx : List Int) (base : Nat) (n : Nat) : Prop := ∀ (x : List Int) (b : Best) (Ab : Option Addr) (nb cp : Nat) (top : Int) (w : World),
    x.length + n = v.length → x.all isBit = true → base ≤ w.heap.size → RFrame (Two g gx) A0 A1 A2 v rs fx w →
    w.heap[g]? = some (.cells (rsrch gx A0 A1 A2 c0 c1 c2 cx v.length rs.length fx.length Ab nb cp top) 61 (0, 0)) → w.heap[gx]? = some (.cells (xrow (xmid x fx) tl) 3 (0, 0)) → BestOk (Two g gx) base w Ab nb cp top b →
    Calls Try.prog 40 #[.pointer (some ⟨g, 0, none⟩), .int .i64 (x.length : Int), .int .i64 (dotS v x)] w fun e w' => e = .returned (.tuple #[]) ∧ But (Two g gx) w w' ∧ ∃ Ab' nb' cp' top',
      w'.heap[g]? = some (.cells (rsrch gx A0 A1 A2 c0 c1 c2 cx v.length rs.length fx.length Ab' nb' cp' top') 61 (0, 0)) ∧ w'.heap[gx]? = some (.cells (xrow (xmid x fx) tl) 3 (0, 0)) ∧
      BestOk (Two g gx) base w' Ab' nb' cp' top' (goS (hopR v rs fx) (dotS v) fx n x b)
theorem rbit_call (g gx : Nat) (A0 A1 A2 Ab : Option Addr) (c0 c1 c2 cx nb cp : Nat) (tl : Array Value) (v : List Int) (rs : List S45) (fx x : List Int) (base n : Nat) (top vv : Int) (b : Best) (w : World) (hP : ValidP v rs fx) (ih : RSpec g gx A0 A1 A2 c0 c1 c2 cx tl v rs fx base n) (hvv : vv = 0 ∨ vv = 1)
    (hxn : x.length + (n + 1) = v.length) (hx : x.all isBit = true) (hbase : base ≤ w.heap.size) (hF : RFrame (Two g gx) A0 A1 A2 v rs fx w)
    (hb : w.heap[g]? = some (.cells (rsrch gx A0 A1 A2 c0 c1 c2 cx v.length rs.length fx.length Ab nb cp top) 61 (0, 0))) (hxx : w.heap[gx]? = some (.cells (xrow (xmid (x ++ [vv]) fx) tl) 3 (0, 0))) (hB : BestOk (Two g gx) base w Ab nb cp top b) :
    Calls Try.prog 40 #[.pointer (some ⟨g, 0, none⟩), .int .i64 (wrap64 ((x.length : Int) + 1)), .int .i64 (wrap64 (dotS v x + wrap64 (vv * rd v (x.length : Int))))] w fun e w' => e = .returned (.tuple #[]) ∧ But (Two g gx) w w' ∧ ∃ Ab' nb' cp' top',
      w'.heap[g]? = some (.cells (rsrch gx A0 A1 A2 c0 c1 c2 cx v.length rs.length fx.length Ab' nb' cp' top') 61 (0, 0)) ∧ w'.heap[gx]? = some (.cells (xrow (xmid (x ++ [vv]) fx) tl) 3 (0, 0)) ∧
      BestOk (Two g gx) base w' Ab' nb' cp' top' (goS (hopR v rs fx) (dotS v) fx n (x ++ [vv]) b) := by
  have hv := hP.vars
  have h := ih (x ++ [vv]) b Ab nb cp top w (by simp; omega) (by rw [List.all_append, hx, Bool.true_and]; rcases hvv with e | e <;> subst e <;> decide) hbase hF hb hxx hB
  rw [List.length_append, List.length_singleton, ← wrap_nat (by omega), ← val_any hP hx (by omega) hvv] at h
  exact h
theorem rhop_call (g gx : Nat) (A0 A1 A2 Ab : Option Addr) (c0 c1 c2 cx nb cp : Nat) (tl : Array Value) (v : List Int) (rs : List S45) (fx x : List Int) (top pos : Int) (w : World) (hP : ValidP v rs fx) (hcx : v.length ≤ cx) (hl : x.length ≤ v.length) (hF : RFrame (Two g gx) A0 A1 A2 v rs fx w)
    (hb : w.heap[g]? = some (.cells (rsrch gx A0 A1 A2 c0 c1 c2 cx v.length rs.length fx.length Ab nb cp top) 61 (0, 0))) (hx : w.heap[gx]? = some (.cells (xrow (xmid x fx) tl) 3 (0, 0))) :
    Calls Try.prog 46 #[.pointer (some ⟨g, 0, none⟩), .int .i64 pos] w fun e w' => e = .returned (.bool (hopRs rs (xmid x fx))) ∧ Below w.heap.size w w' :=
  rhop_walk g gx A0 A1 A2 Ab c0 c1 c2 cx nb cp v rs fx (xmid x fx) top pos w hP (xmid_length hl hP.fixed) hcx hb (Kd.F_now hF.R) (C_xrow hx (by rw [xmid_length hl hP.fixed]; have := hP.vars; omega)) _ rfl
set_option maxHeartbeats 8000000 in
set_option maxRecDepth 100000 in
theorem rfrom_any (g gx : Nat) (A0 A1 A2 : Option Addr) (c0 c1 c2 cx : Nat) (tl : Array Value) (v : List Int) (rs : List S45) (fx : List Int) (hP : ValidP v rs fx) (hcx : v.length ≤ cx) (base : Nat) (hne : gx ≠ g) (n : Nat) (ih : ∀ m, n = m + 1 → RSpec g gx A0 A1 A2 c0 c1 c2 cx tl v rs fx base m) : RSpec g gx A0 A1 A2 c0 c1 c2 cx tl v rs fx base n := by
  intro x b Ab nb cp top w hxn hxb hbase hF hb hxx hB
  have HC46 := Aside0.mk (rhop_call g gx A0 A1 A2 Ab c0 c1 c2 cx nb cp tl v rs fx x top (x.length : Int) w.drew hP hcx (by omega) (hF.but (But.of_below (below_drew (Below.refl _ _)))) hb hxx)
  have HX := Aside0.mk hxx
  have HBB := Aside0.mk hb
  have HF := Aside0.mk hF
  have HBO := Aside0.mk hB
  have HN := Aside0.mk hxn
  have HLE := Aside0.mk (show x.length ≤ v.length by omega)
  have HBASE := Aside0.mk hbase
  have HP := Aside0.mk hP
  have HNE := Aside0.mk hne
  have HXB := Aside0.mk hxb
  have HCX := Aside0.mk hcx
  have IH := Aside0.mk ih
  have HWV := Aside0.mk (show wrap64 (dotS v x + hiS (v.drop x.length) (fx.drop x.length)) = dotS v x + hiS (v.drop x.length) (fx.drop x.length) by
    have h1 := dot_bound v x hP.okV hxb; have h2 := lo_drop v fx hP.okV x.length (by omega) hP.vars; have h3 := hP.vars; exact wrap_in (by omega) (by omega))
  clear hxx hb hF hB hxn hbase hP hne hxb hcx ih
  go_enter Try.func40, Try.ntmps40
  go_upto_region 0 with fail
  go_cut [29] (fun v29 wx => v29 = .bool (hopR v rs fx x b) ∧ Aside0 (Below w.heap.size w wx))
  case first =>
    cases h46 : hopRs rs (xmid x fx) with
    | true =>
      have HV := Aside0.mk (show hopR v rs fx x b = true by unfold hopR; rw [h46]; rfl)
      rw [h46] at HC46
      clear h46
      refine start_ (n := 22) (S := fun w' => w'.cell? ⟨g, 4, none⟩ = some (.slice Ab nb cp) ∧ w'.cell? ⟨g, 5, none⟩ = some (.int .i64 top)) (ds := []) #[false, false, false, false, false, false, false, false, false, false, false, false, false, false, false, false, false, false, false, false, false, false] (by kernel_rfl) rfl rfl ⟨(blk_cell HBB.out 4).trans rfl, (blk_cell HBB.out 5).trans rfl⟩ (fun hHeld => ?_)
      refine pure_ (i := 0) (N := (some 8)) (v := ?_) (a' := ?_) #[true, false, false, false, false, false, false, false, false, false, false, false, false, false, false, false, false, false, false, false, false, false] rfl rfl (by kernel_rfl) (fun _ _ _ h => h) (Or.inl ⟨by rfl, ?_⟩) ?_ ?_
      rotate_left
      · intro w'; go_simp; with_reducible rfl
      rotate_left
      · simp only [Act.put, List.setIfInBounds_toArray, List.set_cons_zero, List.set_cons_succ, i64_w]; rfl
      refine pure_ (i := 1) (N := (some 9)) (v := ?_) (a' := ?_) #[true, true, false, false, false, false, false, false, false, false, false, false, false, false, false, false, false, false, false, false, false, false] rfl rfl (by kernel_rfl) (fun _ _ _ h => h) (Or.inl ⟨by rfl, ?_⟩) ?_ ?_
      rotate_left
      · intro w'; go_simp; with_reducible rfl
      rotate_left
      · simp only [Act.put, List.setIfInBounds_toArray, List.set_cons_zero, List.set_cons_succ, i64_w]; rfl
      refine one_ (i := 2) (N := some 10) #[true, true, true, false, false, false, false, false, false, false, false, false, false, false, false, false, false, false, false, false, false, false] rfl rfl (by kernel_rfl) (by decide) (fun K hK => ?_)
      refine goes_ Try.func46 (by kernel_rfl) rfl #[.pointer (some ⟨g, 0, none⟩), .int .i64 (x.length : Int)] (by rfl) rfl rfl (by (try simp only [List.map_toArray, List.map_cons, List.map_nil]); first | done | rfl) ?_
      (with_reducible refine HC46.out.mono ?_)
      rintro e wy ⟨rfl, hb⟩
      refine ⟨_, rfl, ?_⟩
      have HBY := Aside0.mk (rbelow_both (below_drew (Below.refl w.heap.size w)) hb)
      clear hb
      have HGY := Aside0.mk (blk_below HBB.out HBY.out)
      refine hK.out _ _ ⟨(blk_cell HGY.out 4).trans rfl, (blk_cell HGY.out 5).trans rfl⟩ (fun hHeld => ?_)
      clear hK K
      refine norm_ (a' := ?_) ?_ ?_
      rotate_left
      · show Act.put _ (some 10) _ = _
        simp only [Act.put, List.setIfInBounds_toArray, List.set_cons_zero, List.set_cons_succ, i64_w]; rfl
      refine pure_ (i := 3) (N := (some 11)) (v := ?_) (a' := ?_) #[true, true, true, true, false, false, false, false, false, false, false, false, false, false, false, false, false, false, false, false, false, false] rfl rfl (by kernel_rfl) (fun _ _ _ h => h) (Or.inl ⟨by rfl, ?_⟩) ?_ ?_
      rotate_left
      · intro w'; go_simp; with_reducible rfl
      rotate_left
      · simp only [Act.put, List.setIfInBounds_toArray, List.set_cons_zero, List.set_cons_succ, i64_w]; rfl
      refine pure_ (i := 4) (N := (some 12)) (v := undef) (a' := ?_) #[true, true, true, true, true, false, false, false, false, false, false, false, false, false, false, false, false, false, false, false, false, false] rfl rfl (by kernel_rfl) (fun _ _ _ h => h) (Or.inr ⟨by rfl, rfl⟩) ?_ ?_
      rotate_left
      · simp only [Act.put, List.setIfInBounds_toArray, List.set_cons_zero, List.set_cons_succ, i64_w]; rfl
      refine pure_ (i := 5) (N := (some 13)) (v := undef) (a' := ?_) #[true, true, true, true, true, true, false, false, false, false, false, false, false, false, false, false, false, false, false, false, false, false] rfl rfl (by kernel_rfl) (fun _ _ _ h => h) (Or.inr ⟨by rfl, rfl⟩) ?_ ?_
      rotate_left
      · simp only [Act.put, List.setIfInBounds_toArray, List.set_cons_zero, List.set_cons_succ, i64_w]; rfl
      refine pure_ (i := 6) (N := (some 14)) (v := undef) (a' := ?_) #[true, true, true, true, true, true, true, false, false, false, false, false, false, false, false, false, false, false, false, false, false, false] rfl rfl (by kernel_rfl) (fun _ _ _ h => h) (Or.inr ⟨by rfl, rfl⟩) ?_ ?_
      rotate_left
      · simp only [Act.put, List.setIfInBounds_toArray, List.set_cons_zero, List.set_cons_succ, i64_w]; rfl
      refine pure_ (i := 7) (N := (some 15)) (v := undef) (a' := ?_) #[true, true, true, true, true, true, true, true, false, false, false, false, false, false, false, false, false, false, false, false, false, false] rfl rfl (by kernel_rfl) (fun _ _ _ h => h) (Or.inr ⟨by rfl, rfl⟩) ?_ ?_
      rotate_left
      · simp only [Act.put, List.setIfInBounds_toArray, List.set_cons_zero, List.set_cons_succ, i64_w]; rfl
      refine pure_ (i := 8) (N := (some 16)) (v := undef) (a' := ?_) #[true, true, true, true, true, true, true, true, true, false, false, false, false, false, false, false, false, false, false, false, false, false] rfl rfl (by kernel_rfl) (fun _ _ _ h => h) (Or.inr ⟨by rfl, rfl⟩) ?_ ?_
      rotate_left
      · simp only [Act.put, List.setIfInBounds_toArray, List.set_cons_zero, List.set_cons_succ, i64_w]; rfl
      refine pure_ (i := 9) (N := (some 17)) (v := undef) (a' := ?_) #[true, true, true, true, true, true, true, true, true, true, false, false, false, false, false, false, false, false, false, false, false, false] rfl rfl (by kernel_rfl) (fun _ _ _ h => h) (Or.inr ⟨by rfl, rfl⟩) ?_ ?_
      rotate_left
      · simp only [Act.put, List.setIfInBounds_toArray, List.set_cons_zero, List.set_cons_succ, i64_w]; rfl
      refine pure_ (i := 10) (N := (some 18)) (v := undef) (a' := ?_) #[true, true, true, true, true, true, true, true, true, true, true, false, false, false, false, false, false, false, false, false, false, false] rfl rfl (by kernel_rfl) (fun _ _ _ h => h) (Or.inr ⟨by rfl, rfl⟩) ?_ ?_
      rotate_left
      · simp only [Act.put, List.setIfInBounds_toArray, List.set_cons_zero, List.set_cons_succ, i64_w]; rfl
      refine pure_ (i := 11) (N := (some 19)) (v := undef) (a' := ?_) #[true, true, true, true, true, true, true, true, true, true, true, true, false, false, false, false, false, false, false, false, false, false] rfl rfl (by kernel_rfl) (fun _ _ _ h => h) (Or.inr ⟨by rfl, rfl⟩) ?_ ?_
      rotate_left
      · simp only [Act.put, List.setIfInBounds_toArray, List.set_cons_zero, List.set_cons_succ, i64_w]; rfl
      refine pure_ (i := 12) (N := (some 20)) (v := undef) (a' := ?_) #[true, true, true, true, true, true, true, true, true, true, true, true, true, false, false, false, false, false, false, false, false, false] rfl rfl (by kernel_rfl) (fun _ _ _ h => h) (Or.inr ⟨by rfl, rfl⟩) ?_ ?_
      rotate_left
      · simp only [Act.put, List.setIfInBounds_toArray, List.set_cons_zero, List.set_cons_succ, i64_w]; rfl
      refine pure_ (i := 13) (N := (some 21)) (v := undef) (a' := ?_) #[true, true, true, true, true, true, true, true, true, true, true, true, true, true, false, false, false, false, false, false, false, false] rfl rfl (by kernel_rfl) (fun _ _ _ h => h) (Or.inr ⟨by rfl, rfl⟩) ?_ ?_
      rotate_left
      · simp only [Act.put, List.setIfInBounds_toArray, List.set_cons_zero, List.set_cons_succ, i64_w]; rfl
      refine pure_ (i := 14) (N := (some 22)) (v := undef) (a' := ?_) #[true, true, true, true, true, true, true, true, true, true, true, true, true, true, true, false, false, false, false, false, false, false] rfl rfl (by kernel_rfl) (fun _ _ _ h => h) (Or.inr ⟨by rfl, rfl⟩) ?_ ?_
      rotate_left
      · simp only [Act.put, List.setIfInBounds_toArray, List.set_cons_zero, List.set_cons_succ, i64_w]; rfl
      refine pure_ (i := 15) (N := (some 23)) (v := undef) (a' := ?_) #[true, true, true, true, true, true, true, true, true, true, true, true, true, true, true, true, false, false, false, false, false, false] rfl rfl (by kernel_rfl) (fun _ _ _ h => h) (Or.inr ⟨by rfl, rfl⟩) ?_ ?_
      rotate_left
      · simp only [Act.put, List.setIfInBounds_toArray, List.set_cons_zero, List.set_cons_succ, i64_w]; rfl
      refine pure_ (i := 16) (N := (some 24)) (v := undef) (a' := ?_) #[true, true, true, true, true, true, true, true, true, true, true, true, true, true, true, true, true, false, false, false, false, false] rfl rfl (by kernel_rfl) (fun _ _ _ h => h) (Or.inr ⟨by rfl, rfl⟩) ?_ ?_
      rotate_left
      · simp only [Act.put, List.setIfInBounds_toArray, List.set_cons_zero, List.set_cons_succ, i64_w]; rfl
      refine pure_ (i := 17) (N := (some 25)) (v := undef) (a' := ?_) #[true, true, true, true, true, true, true, true, true, true, true, true, true, true, true, true, true, true, false, false, false, false] rfl rfl (by kernel_rfl) (fun _ _ _ h => h) (Or.inr ⟨by rfl, rfl⟩) ?_ ?_
      rotate_left
      · simp only [Act.put, List.setIfInBounds_toArray, List.set_cons_zero, List.set_cons_succ, i64_w]; rfl
      refine pure_ (i := 18) (N := (some 26)) (v := undef) (a' := ?_) #[true, true, true, true, true, true, true, true, true, true, true, true, true, true, true, true, true, true, true, false, false, false] rfl rfl (by kernel_rfl) (fun _ _ _ h => h) (Or.inr ⟨by rfl, rfl⟩) ?_ ?_
      rotate_left
      · simp only [Act.put, List.setIfInBounds_toArray, List.set_cons_zero, List.set_cons_succ, i64_w]; rfl
      refine pure_ (i := 19) (N := (some 27)) (v := undef) (a' := ?_) #[true, true, true, true, true, true, true, true, true, true, true, true, true, true, true, true, true, true, true, true, false, false] rfl rfl (by kernel_rfl) (fun _ _ _ h => h) (Or.inr ⟨by rfl, rfl⟩) ?_ ?_
      rotate_left
      · simp only [Act.put, List.setIfInBounds_toArray, List.set_cons_zero, List.set_cons_succ, i64_w]; rfl
      refine pure_ (i := 20) (N := (some 28)) (v := undef) (a' := ?_) #[true, true, true, true, true, true, true, true, true, true, true, true, true, true, true, true, true, true, true, true, true, false] rfl rfl (by kernel_rfl) (fun _ _ _ h => h) (Or.inr ⟨by rfl, rfl⟩) ?_ ?_
      rotate_left
      · simp only [Act.put, List.setIfInBounds_toArray, List.set_cons_zero, List.set_cons_succ, i64_w]; rfl
      refine pure_ (i := 21) (N := (some 29)) (v := ?_) (a' := ?_) #[true, true, true, true, true, true, true, true, true, true, true, true, true, true, true, true, true, true, true, true, true, true] rfl rfl (by kernel_rfl) (fun _ _ _ h => h) (Or.inl ⟨by rfl, ?_⟩) ?_ ?_
      rotate_left
      · intro w'; go_simp; with_reducible rfl
      rotate_left
      · simp only [Act.put, List.setIfInBounds_toArray, List.set_cons_zero, List.set_cons_succ, i64_w]; rfl
      refine done_ (by kernel_rfl) ?_
      clear hHeld
      go_wp2_with fail
      go_meet
      exact ⟨congrArg Value.bool HV.out.symm, ⟨HBY.out⟩⟩
    | false =>
     have HV0 := Aside0.mk (show hopR v rs fx x b = noBetter v fx x b by unfold hopR; rw [h46]; rfl)
     rw [h46] at HC46
     clear h46
     cases Ab with
     | none =>
      have HV := Aside0.mk (show hopR v rs fx x b = false by
        rw [HV0.out]
        have h1 := HBO.out.1
        cases b with
        | none => rfl
        | some p => exact absurd h1.1 (by simp))
      have hq := fun w' => run_neq_slice_nil_any (P := Try.prog) w' 22 3 none nb cp 0 0 Try.underlying22
      refine start_ (n := 22) (S := fun w' => w'.cell? ⟨g, 4, none⟩ = some (.slice none nb cp) ∧ w'.cell? ⟨g, 5, none⟩ = some (.int .i64 top)) (ds := []) #[false, false, false, false, false, false, false, false, false, false, false, false, false, false, false, false, false, false, false, false, false, false] (by kernel_rfl) rfl rfl ⟨(blk_cell HBB.out 4).trans rfl, (blk_cell HBB.out 5).trans rfl⟩ (fun hHeld => ?_)
      refine pure_ (i := 0) (N := (some 8)) (v := ?_) (a' := ?_) #[true, false, false, false, false, false, false, false, false, false, false, false, false, false, false, false, false, false, false, false, false, false] rfl rfl (by kernel_rfl) (fun _ _ _ h => h) (Or.inl ⟨by rfl, ?_⟩) ?_ ?_
      rotate_left
      · intro w'; go_simp; with_reducible rfl
      rotate_left
      · simp only [Act.put, List.setIfInBounds_toArray, List.set_cons_zero, List.set_cons_succ, i64_w]; rfl
      refine pure_ (i := 1) (N := (some 9)) (v := ?_) (a' := ?_) #[true, true, false, false, false, false, false, false, false, false, false, false, false, false, false, false, false, false, false, false, false, false] rfl rfl (by kernel_rfl) (fun _ _ _ h => h) (Or.inl ⟨by rfl, ?_⟩) ?_ ?_
      rotate_left
      · intro w'; go_simp; with_reducible rfl
      rotate_left
      · simp only [Act.put, List.setIfInBounds_toArray, List.set_cons_zero, List.set_cons_succ, i64_w]; rfl
      refine one_ (i := 2) (N := some 10) #[true, true, true, false, false, false, false, false, false, false, false, false, false, false, false, false, false, false, false, false, false, false] rfl rfl (by kernel_rfl) (by decide) (fun K hK => ?_)
      refine goes_ Try.func46 (by kernel_rfl) rfl #[.pointer (some ⟨g, 0, none⟩), .int .i64 (x.length : Int)] (by rfl) rfl rfl (by (try simp only [List.map_toArray, List.map_cons, List.map_nil]); first | done | rfl) ?_
      (with_reducible refine HC46.out.mono ?_)
      rintro e wy ⟨rfl, hb⟩
      refine ⟨_, rfl, ?_⟩
      have HBY := Aside0.mk (rbelow_both (below_drew (Below.refl w.heap.size w)) hb)
      clear hb
      have HGY := Aside0.mk (blk_below HBB.out HBY.out)
      refine hK.out _ _ ⟨(blk_cell HGY.out 4).trans rfl, (blk_cell HGY.out 5).trans rfl⟩ (fun hHeld => ?_)
      clear hK K
      refine norm_ (a' := ?_) ?_ ?_
      rotate_left
      · show Act.put _ (some 10) _ = _
        simp only [Act.put, List.setIfInBounds_toArray, List.set_cons_zero, List.set_cons_succ, i64_w]; rfl
      refine pure_ (i := 3) (N := (some 11)) (v := ?_) (a' := ?_) #[true, true, true, true, false, false, false, false, false, false, false, false, false, false, false, false, false, false, false, false, false, false] rfl rfl (by kernel_rfl) (fun _ _ _ h => h) (Or.inl ⟨by rfl, ?_⟩) ?_ ?_
      rotate_left
      · intro w'; go_simp; with_reducible rfl
      rotate_left
      · simp only [Act.put, List.setIfInBounds_toArray, List.set_cons_zero, List.set_cons_succ, i64_w]; rfl
      refine pure_ (i := 4) (N := (some 12)) (v := ?_) (a' := ?_) #[true, true, true, true, true, false, false, false, false, false, false, false, false, false, false, false, false, false, false, false, false, false] rfl rfl (by kernel_rfl) (fun _ _ _ h => h) (Or.inl ⟨by rfl, ?_⟩) ?_ ?_
      rotate_left
      · intro w'; go_simp; with_reducible rfl
      rotate_left
      · simp only [Act.put, List.setIfInBounds_toArray, List.set_cons_zero, List.set_cons_succ, i64_w]; rfl
      refine pure_ (i := 5) (N := (some 13)) (v := ?_) (a' := ?_) #[true, true, true, true, true, true, false, false, false, false, false, false, false, false, false, false, false, false, false, false, false, false] rfl rfl (by kernel_rfl) (fun _ _ _ h => h) (Or.inl ⟨by rfl, ?_⟩) ?_ ?_
      rotate_left
      · intro w'; go_simp; with_reducible rfl
      rotate_left
      · simp only [Act.put, List.setIfInBounds_toArray, List.set_cons_zero, List.set_cons_succ, i64_w]; rfl
      refine pure_ (i := 6) (N := (some 14)) (v := ?_) (a' := ?_) #[true, true, true, true, true, true, true, false, false, false, false, false, false, false, false, false, false, false, false, false, false, false] rfl rfl (by kernel_rfl) (fun _ _ _ h => h) (Or.inl ⟨by rfl, ?_⟩) ?_ ?_
      rotate_left
      · intro w'; go_simp; with_reducible rfl
      rotate_left
      · simp only [Act.put, List.setIfInBounds_toArray, List.set_cons_zero, List.set_cons_succ, i64_w]; rfl
      refine take_ (i := 7) (N := (some 15)) (v := ?_) (a' := ?_) #[true, true, true, true, true, true, true, true, false, false, false, false, false, false, false, false, false, false, false, false, false, false] rfl rfl (by kernel_rfl) (fun _ _ _ h => h) (Or.inl ⟨by rfl, ?_⟩) hHeld ?_ ?_
      rotate_left
      · rintro w' ⟨s0, s1⟩; go_simp; with_reducible rfl
      rotate_left
      · simp only [Act.put, List.setIfInBounds_toArray, List.set_cons_zero, List.set_cons_succ, i64_w]; rfl
      refine pure_ (i := 8) (N := (some 16)) (v := ?_) (a' := ?_) #[true, true, true, true, true, true, true, true, true, false, false, false, false, false, false, false, false, false, false, false, false, false] rfl rfl (by kernel_rfl) (fun _ _ _ h => h) (Or.inl ⟨by rfl, ?_⟩) ?_ ?_
      rotate_left
      · intro w'; go_simp; with_reducible rfl
      rotate_left
      · simp only [Act.put, List.setIfInBounds_toArray, List.set_cons_zero, List.set_cons_succ, i64_w]; rfl
      refine pure_ (i := 9) (N := (some 17)) (v := ?_) (a' := ?_) #[true, true, true, true, true, true, true, true, true, true, false, false, false, false, false, false, false, false, false, false, false, false] rfl rfl (by kernel_rfl) (fun _ _ _ h => h) (Or.inl ⟨by rfl, ?_⟩) ?_ ?_
      rotate_left
      · intro w'; go_simp; with_reducible rfl
      rotate_left
      · simp only [Act.put, List.setIfInBounds_toArray, List.set_cons_zero, List.set_cons_succ, i64_w]; rfl
      refine pure_ (i := 10) (N := (some 18)) (v := undef) (a' := ?_) #[true, true, true, true, true, true, true, true, true, true, true, false, false, false, false, false, false, false, false, false, false, false] rfl rfl (by kernel_rfl) (fun _ _ _ h => h) (Or.inr ⟨by rfl, rfl⟩) ?_ ?_
      rotate_left
      · simp only [Act.put, List.setIfInBounds_toArray, List.set_cons_zero, List.set_cons_succ, i64_w]; rfl
      refine pure_ (i := 11) (N := (some 19)) (v := undef) (a' := ?_) #[true, true, true, true, true, true, true, true, true, true, true, true, false, false, false, false, false, false, false, false, false, false] rfl rfl (by kernel_rfl) (fun _ _ _ h => h) (Or.inr ⟨by rfl, rfl⟩) ?_ ?_
      rotate_left
      · simp only [Act.put, List.setIfInBounds_toArray, List.set_cons_zero, List.set_cons_succ, i64_w]; rfl
      refine pure_ (i := 12) (N := (some 20)) (v := undef) (a' := ?_) #[true, true, true, true, true, true, true, true, true, true, true, true, true, false, false, false, false, false, false, false, false, false] rfl rfl (by kernel_rfl) (fun _ _ _ h => h) (Or.inr ⟨by rfl, rfl⟩) ?_ ?_
      rotate_left
      · simp only [Act.put, List.setIfInBounds_toArray, List.set_cons_zero, List.set_cons_succ, i64_w]; rfl
      refine pure_ (i := 13) (N := (some 21)) (v := undef) (a' := ?_) #[true, true, true, true, true, true, true, true, true, true, true, true, true, true, false, false, false, false, false, false, false, false] rfl rfl (by kernel_rfl) (fun _ _ _ h => h) (Or.inr ⟨by rfl, rfl⟩) ?_ ?_
      rotate_left
      · simp only [Act.put, List.setIfInBounds_toArray, List.set_cons_zero, List.set_cons_succ, i64_w]; rfl
      refine pure_ (i := 14) (N := (some 22)) (v := undef) (a' := ?_) #[true, true, true, true, true, true, true, true, true, true, true, true, true, true, true, false, false, false, false, false, false, false] rfl rfl (by kernel_rfl) (fun _ _ _ h => h) (Or.inr ⟨by rfl, rfl⟩) ?_ ?_
      rotate_left
      · simp only [Act.put, List.setIfInBounds_toArray, List.set_cons_zero, List.set_cons_succ, i64_w]; rfl
      refine pure_ (i := 15) (N := (some 23)) (v := undef) (a' := ?_) #[true, true, true, true, true, true, true, true, true, true, true, true, true, true, true, true, false, false, false, false, false, false] rfl rfl (by kernel_rfl) (fun _ _ _ h => h) (Or.inr ⟨by rfl, rfl⟩) ?_ ?_
      rotate_left
      · simp only [Act.put, List.setIfInBounds_toArray, List.set_cons_zero, List.set_cons_succ, i64_w]; rfl
      refine pure_ (i := 16) (N := (some 24)) (v := undef) (a' := ?_) #[true, true, true, true, true, true, true, true, true, true, true, true, true, true, true, true, true, false, false, false, false, false] rfl rfl (by kernel_rfl) (fun _ _ _ h => h) (Or.inr ⟨by rfl, rfl⟩) ?_ ?_
      rotate_left
      · simp only [Act.put, List.setIfInBounds_toArray, List.set_cons_zero, List.set_cons_succ, i64_w]; rfl
      refine pure_ (i := 17) (N := (some 25)) (v := undef) (a' := ?_) #[true, true, true, true, true, true, true, true, true, true, true, true, true, true, true, true, true, true, false, false, false, false] rfl rfl (by kernel_rfl) (fun _ _ _ h => h) (Or.inr ⟨by rfl, rfl⟩) ?_ ?_
      rotate_left
      · simp only [Act.put, List.setIfInBounds_toArray, List.set_cons_zero, List.set_cons_succ, i64_w]; rfl
      refine pure_ (i := 18) (N := (some 26)) (v := undef) (a' := ?_) #[true, true, true, true, true, true, true, true, true, true, true, true, true, true, true, true, true, true, true, false, false, false] rfl rfl (by kernel_rfl) (fun _ _ _ h => h) (Or.inr ⟨by rfl, rfl⟩) ?_ ?_
      rotate_left
      · simp only [Act.put, List.setIfInBounds_toArray, List.set_cons_zero, List.set_cons_succ, i64_w]; rfl
      refine pure_ (i := 19) (N := (some 27)) (v := undef) (a' := ?_) #[true, true, true, true, true, true, true, true, true, true, true, true, true, true, true, true, true, true, true, true, false, false] rfl rfl (by kernel_rfl) (fun _ _ _ h => h) (Or.inr ⟨by rfl, rfl⟩) ?_ ?_
      rotate_left
      · simp only [Act.put, List.setIfInBounds_toArray, List.set_cons_zero, List.set_cons_succ, i64_w]; rfl
      refine pure_ (i := 20) (N := (some 28)) (v := ?_) (a' := ?_) #[true, true, true, true, true, true, true, true, true, true, true, true, true, true, true, true, true, true, true, true, true, false] rfl rfl (by kernel_rfl) (fun _ _ _ h => h) (Or.inl ⟨by rfl, ?_⟩) ?_ ?_
      rotate_left
      · intro w'; go_simp; with_reducible rfl
      rotate_left
      · simp only [Act.put, List.setIfInBounds_toArray, List.set_cons_zero, List.set_cons_succ, i64_w]; rfl
      refine pure_ (i := 21) (N := (some 29)) (v := ?_) (a' := ?_) #[true, true, true, true, true, true, true, true, true, true, true, true, true, true, true, true, true, true, true, true, true, true] rfl rfl (by kernel_rfl) (fun _ _ _ h => h) (Or.inl ⟨by rfl, ?_⟩) ?_ ?_
      rotate_left
      · intro w'; go_simp; with_reducible rfl
      rotate_left
      · simp only [Act.put, List.setIfInBounds_toArray, List.set_cons_zero, List.set_cons_succ, i64_w]; rfl
      refine done_ (by kernel_rfl) ?_
      clear hHeld
      go_wp2_with fail
      go_meet
      exact ⟨congrArg Value.bool HV.out.symm, ⟨HBY.out⟩⟩
     | some ab =>
      have HV := Aside0.mk (show hopR v rs fx x b = decide (wrap64 (dotS v x + hiS (v.drop x.length) (fx.drop x.length)) ≤ top) by
        rw [HV0.out, HWV.out]
        have h1 := HBO.out.1
        cases b with
        | none => exact absurd h1 (by simp [BestIs])
        | some p => rw [show top = p.2 from h1.2]; rfl)
      have hq := fun w' => run_neq_slice_nil_any (P := Try.prog) w' 22 3 (some ab) nb cp 0 0 Try.underlying22
      refine start_ (n := 22) (S := fun w' => w'.cell? ⟨g, 4, none⟩ = some (.slice (some ab) nb cp) ∧ w'.cell? ⟨g, 5, none⟩ = some (.int .i64 top)) (ds := []) #[false, false, false, false, false, false, false, false, false, false, false, false, false, false, false, false, false, false, false, false, false, false] (by kernel_rfl) rfl rfl ⟨(blk_cell HBB.out 4).trans rfl, (blk_cell HBB.out 5).trans rfl⟩ (fun hHeld => ?_)
      refine pure_ (i := 0) (N := (some 8)) (v := ?_) (a' := ?_) #[true, false, false, false, false, false, false, false, false, false, false, false, false, false, false, false, false, false, false, false, false, false] rfl rfl (by kernel_rfl) (fun _ _ _ h => h) (Or.inl ⟨by rfl, ?_⟩) ?_ ?_
      rotate_left
      · intro w'; go_simp; with_reducible rfl
      rotate_left
      · simp only [Act.put, List.setIfInBounds_toArray, List.set_cons_zero, List.set_cons_succ, i64_w]; rfl
      refine pure_ (i := 1) (N := (some 9)) (v := ?_) (a' := ?_) #[true, true, false, false, false, false, false, false, false, false, false, false, false, false, false, false, false, false, false, false, false, false] rfl rfl (by kernel_rfl) (fun _ _ _ h => h) (Or.inl ⟨by rfl, ?_⟩) ?_ ?_
      rotate_left
      · intro w'; go_simp; with_reducible rfl
      rotate_left
      · simp only [Act.put, List.setIfInBounds_toArray, List.set_cons_zero, List.set_cons_succ, i64_w]; rfl
      refine one_ (i := 2) (N := some 10) #[true, true, true, false, false, false, false, false, false, false, false, false, false, false, false, false, false, false, false, false, false, false] rfl rfl (by kernel_rfl) (by decide) (fun K hK => ?_)
      refine goes_ Try.func46 (by kernel_rfl) rfl #[.pointer (some ⟨g, 0, none⟩), .int .i64 (x.length : Int)] (by rfl) rfl rfl (by (try simp only [List.map_toArray, List.map_cons, List.map_nil]); first | done | rfl) ?_
      (with_reducible refine HC46.out.mono ?_)
      rintro e wy ⟨rfl, hb⟩
      refine ⟨_, rfl, ?_⟩
      have HBY := Aside0.mk (rbelow_both (below_drew (Below.refl w.heap.size w)) hb)
      clear hb
      have HGY := Aside0.mk (blk_below HBB.out HBY.out)
      refine hK.out _ _ ⟨(blk_cell HGY.out 4).trans rfl, (blk_cell HGY.out 5).trans rfl⟩ (fun hHeld => ?_)
      clear hK K
      refine norm_ (a' := ?_) ?_ ?_
      rotate_left
      · show Act.put _ (some 10) _ = _
        simp only [Act.put, List.setIfInBounds_toArray, List.set_cons_zero, List.set_cons_succ, i64_w]; rfl
      refine pure_ (i := 3) (N := (some 11)) (v := ?_) (a' := ?_) #[true, true, true, true, false, false, false, false, false, false, false, false, false, false, false, false, false, false, false, false, false, false] rfl rfl (by kernel_rfl) (fun _ _ _ h => h) (Or.inl ⟨by rfl, ?_⟩) ?_ ?_
      rotate_left
      · intro w'; go_simp; with_reducible rfl
      rotate_left
      · simp only [Act.put, List.setIfInBounds_toArray, List.set_cons_zero, List.set_cons_succ, i64_w]; rfl
      refine pure_ (i := 4) (N := (some 12)) (v := ?_) (a' := ?_) #[true, true, true, true, true, false, false, false, false, false, false, false, false, false, false, false, false, false, false, false, false, false] rfl rfl (by kernel_rfl) (fun _ _ _ h => h) (Or.inl ⟨by rfl, ?_⟩) ?_ ?_
      rotate_left
      · intro w'; go_simp; with_reducible rfl
      rotate_left
      · simp only [Act.put, List.setIfInBounds_toArray, List.set_cons_zero, List.set_cons_succ, i64_w]; rfl
      refine pure_ (i := 5) (N := (some 13)) (v := ?_) (a' := ?_) #[true, true, true, true, true, true, false, false, false, false, false, false, false, false, false, false, false, false, false, false, false, false] rfl rfl (by kernel_rfl) (fun _ _ _ h => h) (Or.inl ⟨by rfl, ?_⟩) ?_ ?_
      rotate_left
      · intro w'; go_simp; with_reducible rfl
      rotate_left
      · simp only [Act.put, List.setIfInBounds_toArray, List.set_cons_zero, List.set_cons_succ, i64_w]; rfl
      refine pure_ (i := 6) (N := (some 14)) (v := ?_) (a' := ?_) #[true, true, true, true, true, true, true, false, false, false, false, false, false, false, false, false, false, false, false, false, false, false] rfl rfl (by kernel_rfl) (fun _ _ _ h => h) (Or.inl ⟨by rfl, ?_⟩) ?_ ?_
      rotate_left
      · intro w'; go_simp; with_reducible rfl
      rotate_left
      · simp only [Act.put, List.setIfInBounds_toArray, List.set_cons_zero, List.set_cons_succ, i64_w]; rfl
      refine take_ (i := 7) (N := (some 15)) (v := ?_) (a' := ?_) #[true, true, true, true, true, true, true, true, false, false, false, false, false, false, false, false, false, false, false, false, false, false] rfl rfl (by kernel_rfl) (fun _ _ _ h => h) (Or.inl ⟨by rfl, ?_⟩) hHeld ?_ ?_
      rotate_left
      · rintro w' ⟨s0, s1⟩; go_simp; with_reducible rfl
      rotate_left
      · simp only [Act.put, List.setIfInBounds_toArray, List.set_cons_zero, List.set_cons_succ, i64_w]; rfl
      refine pure_ (i := 8) (N := (some 16)) (v := ?_) (a' := ?_) #[true, true, true, true, true, true, true, true, true, false, false, false, false, false, false, false, false, false, false, false, false, false] rfl rfl (by kernel_rfl) (fun _ _ _ h => h) (Or.inl ⟨by rfl, ?_⟩) ?_ ?_
      rotate_left
      · intro w'; go_simp; with_reducible rfl
      rotate_left
      · simp only [Act.put, List.setIfInBounds_toArray, List.set_cons_zero, List.set_cons_succ, i64_w]; rfl
      refine pure_ (i := 9) (N := (some 17)) (v := ?_) (a' := ?_) #[true, true, true, true, true, true, true, true, true, true, false, false, false, false, false, false, false, false, false, false, false, false] rfl rfl (by kernel_rfl) (fun _ _ _ h => h) (Or.inl ⟨by rfl, ?_⟩) ?_ ?_
      rotate_left
      · intro w'; go_simp; with_reducible rfl
      rotate_left
      · simp only [Act.put, List.setIfInBounds_toArray, List.set_cons_zero, List.set_cons_succ, i64_w]; rfl
      refine pure_ (i := 10) (N := (some 18)) (v := ?_) (a' := ?_) #[true, true, true, true, true, true, true, true, true, true, true, false, false, false, false, false, false, false, false, false, false, false] rfl rfl (by kernel_rfl) (fun _ _ _ h => h) (Or.inl ⟨by rfl, ?_⟩) ?_ ?_
      rotate_left
      · intro w'; go_simp; with_reducible rfl
      rotate_left
      · simp only [Act.put, List.setIfInBounds_toArray, List.set_cons_zero, List.set_cons_succ, i64_w]; rfl
      refine pure_ (i := 11) (N := (some 19)) (v := ?_) (a' := ?_) #[true, true, true, true, true, true, true, true, true, true, true, true, false, false, false, false, false, false, false, false, false, false] rfl rfl (by kernel_rfl) (fun _ _ _ h => h) (Or.inl ⟨by rfl, ?_⟩) ?_ ?_
      rotate_left
      · intro w'; go_simp; with_reducible rfl
      rotate_left
      · simp only [Act.put, List.setIfInBounds_toArray, List.set_cons_zero, List.set_cons_succ, i64_w]; rfl
      refine pure_ (i := 12) (N := (some 20)) (v := ?_) (a' := ?_) #[true, true, true, true, true, true, true, true, true, true, true, true, true, false, false, false, false, false, false, false, false, false] rfl rfl (by kernel_rfl) (fun _ _ _ h => h) (Or.inl ⟨by rfl, ?_⟩) ?_ ?_
      rotate_left
      · intro w'; go_simp; with_reducible rfl
      rotate_left
      · simp only [Act.put, List.setIfInBounds_toArray, List.set_cons_zero, List.set_cons_succ, i64_w]; rfl
      refine pure_ (i := 15) (N := (some 23)) (v := ?_) (a' := ?_) #[true, true, true, true, true, true, true, true, true, true, true, true, true, false, false, true, false, false, false, false, false, false] rfl rfl (by kernel_rfl) (fun _ _ _ h => h) (Or.inl ⟨by rfl, ?_⟩) ?_ ?_
      rotate_left
      · intro w'; go_simp; with_reducible rfl
      rotate_left
      · simp only [Act.put, List.setIfInBounds_toArray, List.set_cons_zero, List.set_cons_succ, i64_w]; rfl
      refine pure_ (i := 16) (N := (some 24)) (v := ?_) (a' := ?_) #[true, true, true, true, true, true, true, true, true, true, true, true, true, false, false, true, true, false, false, false, false, false] rfl rfl (by kernel_rfl) (fun _ _ _ h => h) (Or.inl ⟨by rfl, ?_⟩) ?_ ?_
      rotate_left
      · intro w'; go_simp; with_reducible rfl
      rotate_left
      · simp only [Act.put, List.setIfInBounds_toArray, List.set_cons_zero, List.set_cons_succ, i64_w]; rfl
      refine pure_ (i := 17) (N := (some 25)) (v := ?_) (a' := ?_) #[true, true, true, true, true, true, true, true, true, true, true, true, true, false, false, true, true, true, false, false, false, false] rfl rfl (by kernel_rfl) (fun _ _ _ h => h) (Or.inl ⟨by rfl, ?_⟩) ?_ ?_
      rotate_left
      · intro w'; go_simp; with_reducible rfl
      rotate_left
      · simp only [Act.put, List.setIfInBounds_toArray, List.set_cons_zero, List.set_cons_succ, i64_w]; rfl
      refine take_ (i := 18) (N := (some 26)) (v := ?_) (a' := ?_) #[true, true, true, true, true, true, true, true, true, true, true, true, true, false, false, true, true, true, true, false, false, false] rfl rfl (by kernel_rfl) (fun _ _ _ h => h) (Or.inl ⟨by rfl, ?_⟩) hHeld ?_ ?_
      rotate_left
      · rintro w' ⟨s0, s1⟩; go_simp; with_reducible rfl
      rotate_left
      · simp only [Act.put, List.setIfInBounds_toArray, List.set_cons_zero, List.set_cons_succ, i64_w]; rfl
      refine one_ (i := 13) (N := some 21) #[true, true, true, true, true, true, true, true, true, true, true, true, true, true, false, true, true, true, true, false, false, false] rfl rfl (by kernel_rfl) (by decide) (fun K hK => ?_)
      refine goes_ Try.func47 (by kernel_rfl) rfl #[.pointer (some ⟨g, 0, none⟩), .int .i64 (x.length : Int)] (by rfl) rfl rfl (by (try simp only [List.map_toArray, List.map_cons, List.map_nil]); first | done | rfl) ?_
      have h47 := rest_walk g gx A0 A1 A2 (some ab) c0 c1 c2 cx nb cp v rs fx top x.length wy HP.out HLE.out HGY.out (Kd.C_below (Kd.F_now HF.out.V) HBY.out) (Kd.C_below (Kd.F_now HF.out.F) HBY.out)
      (with_reducible refine h47.mono ?_)
      rintro e wz ⟨rfl, hb⟩
      refine ⟨_, rfl, ?_⟩
      have HBZ := Aside0.mk (rbelow_both HBY.out (rbelow_low hb HBY.out.size))
      clear hb h47
      have HGZ := Aside0.mk (blk_below HBB.out HBZ.out)
      refine hK.out _ _ ⟨(blk_cell HGZ.out 4).trans rfl, (blk_cell HGZ.out 5).trans rfl⟩ (fun hHeld => ?_)
      clear hK K
      refine norm_ (a' := ?_) ?_ ?_
      rotate_left
      · show Act.put _ (some 21) _ = _
        simp only [Act.put, List.setIfInBounds_toArray, List.set_cons_zero, List.set_cons_succ, i64_w]; rfl
      refine pure_ (i := 14) (N := (some 22)) (v := ?_) (a' := ?_) #[true, true, true, true, true, true, true, true, true, true, true, true, true, true, true, true, true, true, true, false, false, false] rfl rfl (by kernel_rfl) (fun _ _ _ h => h) (Or.inl ⟨by rfl, ?_⟩) ?_ ?_
      rotate_left
      · intro w'; go_simp; with_reducible rfl
      rotate_left
      · simp only [Act.put, List.setIfInBounds_toArray, List.set_cons_zero, List.set_cons_succ, i64_w]; rfl
      refine pure_ (i := 19) (N := (some 27)) (v := ?_) (a' := ?_) #[true, true, true, true, true, true, true, true, true, true, true, true, true, true, true, true, true, true, true, true, false, false] rfl rfl (by kernel_rfl) (fun _ _ _ h => h) (Or.inl ⟨by rfl, ?_⟩) ?_ ?_
      rotate_left
      · intro w'; go_simp; with_reducible rfl
      rotate_left
      · simp only [Act.put, List.setIfInBounds_toArray, List.set_cons_zero, List.set_cons_succ, i64_w]; rfl
      refine pure_ (i := 20) (N := (some 28)) (v := ?_) (a' := ?_) #[true, true, true, true, true, true, true, true, true, true, true, true, true, true, true, true, true, true, true, true, true, false] rfl rfl (by kernel_rfl) (fun _ _ _ h => h) (Or.inl ⟨by rfl, ?_⟩) ?_ ?_
      rotate_left
      · intro w'; go_simp; with_reducible rfl
      rotate_left
      · simp only [Act.put, List.setIfInBounds_toArray, List.set_cons_zero, List.set_cons_succ, i64_w]; rfl
      refine pure_ (i := 21) (N := (some 29)) (v := ?_) (a' := ?_) #[true, true, true, true, true, true, true, true, true, true, true, true, true, true, true, true, true, true, true, true, true, true] rfl rfl (by kernel_rfl) (fun _ _ _ h => h) (Or.inl ⟨by rfl, ?_⟩) ?_ ?_
      rotate_left
      · intro w'; go_simp; with_reducible rfl
      rotate_left
      · simp only [Act.put, List.setIfInBounds_toArray, List.set_cons_zero, List.set_cons_succ, i64_w]; rfl
      refine done_ (by kernel_rfl) ?_
      clear hHeld
      go_wp2_with fail
      go_meet
      exact ⟨congrArg Value.bool HV.out.symm, ⟨HBZ.out⟩⟩
  case rest =>
    obtain ⟨rfl, HB1⟩ := hcut
    have hgb := blk_below HBB.out HB1.out
    have hxb := blk_below HX.out HB1.out
    have hk1 := But.of_below (S := Two g gx) HB1.out
    have HG1 := Aside0.mk hgb
    have HX1 := Aside0.mk hxb
    have HK1 := Aside0.mk hk1
    have HF1 := Aside0.mk (HF.out.but hk1)
    have HBO1 := Aside0.mk (HBO.out.but hk1)
    have HF0 := Aside0.mk HF.out
    clear HF HBO hgb hxb hk1 HC46
    cases hH : hopR v rs fx x b with
    | true =>
      have HG := Aside0.mk (show goS (hopR v rs fx) (dotS v) fx n x b = b by cases n <;> (simp only [goS]; rw [if_pos hH]))
      clear hH
      go_wp2_with fail
      ((try simp only [Exit.inBlock, Exit.then]); refine bodyPost_ret (results_none rfl _ _ _) rfl ?_)
      refine ⟨rfl, HK1.out, Ab, nb, cp, top, HG1.out, HX1.out, ?_⟩
      rw [HG.out]
      exact HBO1.out
    | false =>
      have hc3 : wc.cell? ⟨g, 3, none⟩ = some (.slice (some ⟨gx, 0, none⟩) v.length cx) := (blk_cell HG1.out 3).trans rfl
      cases n with
      | zero =>
        have HG := Aside0.mk (show goS (hopR v rs fx) (dotS v) fx 0 x b = some (x, dotS v x) by simp only [goS]; rw [if_neg (by rw [hH]; decide)])
        have hxl : x.length = v.length := HN.out
        have t1 : (((x.length : Nat) : Int) == ((v.length : Nat) : Int)) = true := by rw [beq_iff_eq]; omega
        have hxm : xmid x fx = x := by unfold xmid; rw [List.drop_eq_nil_of_le (by rw [HP.out.fixed]; omega), List.append_nil]
        have hlim : v.length ≤ 24 := HP.out.vars
        have HE := Aside0.mk (show (Kd.int .i64).R 3 (wc.alloc (.cells #[] 3)) wc.heap.size (fun _ => True) (.slice (some ⟨wc.heap.size, 0, none⟩) 0 0) ([] : List Int) from
          Kd.R_of_own (World.ownsRow_lit (base := wc.heap.size) (e := 3) (size := 1) wc #[] 0 (Nat.le_refl _) (by simp [maxLen]) (by simp)) (fun _ _ => trivial))
        have hcx := C_xrow (blk_alloc HX1.out (.cells #[] 3)) (by rw [hxm]; omega)
        rw [hxm, hxl] at hcx
        have HCXX := Aside0.mk hcx
        have HXM := Aside0.mk hxm
        have HLIM := Aside0.mk hlim
        have HXLEN := Aside0.mk hxl
        have hca3 : ∀ o, (wc.alloc o).cell? ⟨g, 3, none⟩ = some (.slice (some ⟨gx, 0, none⟩) v.length cx) := fun o => (blk_cell (blk_alloc HG1.out o) 3).trans rfl
        clear hxm hlim hcx hH hxl
        go_wp2_with (first | ((with_reducible refine gate_builtin (b := .append) (xs := #[.tmp 38, .tmp 42]) rfl ?_); at_builtin; refine Kd.R_append_row (Value.int .i64) 0 (h1 := fun _ => rfl) (w0 := wc) wc.heap.size rfl (.tmp 38) (.tmp 42) 22 3 (.int .i64 0) 8 rfl Try.underlying22 info3 rfl (by decide) (.slice (some ⟨wc.heap.size, 0, none⟩) 0 0) [] x (some ⟨gx, 0, none⟩) v.length cx (fun _ => True) rfl rfl (fun _ _ => trivial) HE.out HCXX.out (below_alloc (Below.refl _ _) _) (by simp) (by have := HLIM.out; simp; omega) ?_; intro v1 w1 hR hB hg hat; rw [List.nil_append] at hR; have HR2 := Aside0.mk hR; have HB2 := Aside0.mk hB; have HAT := Aside0.mk hat; have HGW := Aside0.mk (blk_below HG1.out hB); have hw4 : w1.cell? ⟨g, 4, none⟩ = some (.slice Ab nb cp) := (blk_cell HGW.out 4).trans rfl; have hw5 : w1.cell? ⟨g, 5, none⟩ = some (.int .i64 top) := (blk_cell HGW.out 5).trans rfl; have hz4 := blk_frozen HGW.out 4; have hz5 := blk_frozen HGW.out 5; obtain ⟨Av, cv, rfl⟩ := Kd.R_slice hR; clear hR hB hg hat))
        ((try simp only [Exit.inBlock, Exit.then]); refine bodyPost_ret (results_none rfl _ _ _) rfl ?_)
        have hAv : Av.isNone = false := by
          cases Av with
          | none => rcases HAT.out with e | ⟨b', e, _⟩ <;> simp [Value.ownBlock] at e
          | some _ => rfl
        have hlt : ∀ k, Two g gx k → k < wc.heap.size := by
          rintro k (h | h) <;> subst h
          · exact blk_lt HG1.out
          · exact blk_lt HX1.out
        have hr2 : Kd.R (Kd.int .i64) 3 w1 base (fun k => ¬ Two g gx k) (.slice Av x.length cv) x :=
          Kd.R_lower (Kd.R_mono (Kd.R_bound HR2.out) (fun k hk h => by have h1 := hk.2.1; have h2 := hlt k h; omega)) (Nat.le_trans HBASE.out HK1.out.size)
        have hk4 : But (Two g gx) w1 _ := ((But.refl _ w1).set (p := ⟨g, 4, none⟩) (.inl rfl) (.slice Av x.length cv)).set (p := ⟨g, 5, none⟩) (.inl rfl) (.int .i64 (dotS v x))
        refine ⟨rfl, (HK1.out.trans (But.of_below HB2.out)).trans hk4, Av, x.length, cv, dotS v x, blk_put (blk_put HGW.out 4 _ rfl) 5 _ rfl, blk_far (blk_far (blk_below HX1.out HB2.out) (p := ⟨g, 4, none⟩) HNE.out _) (p := ⟨g, 5, none⟩) HNE.out _, ?_⟩
        rw [HG.out]
        exact ⟨⟨hAv, rfl⟩, fun p hp => by cases hp; exact hk4.keep hr2⟩
      | succ n =>
        have hlx : x.length < v.length := by have := HN.out; omega
        have hlf : x.length < fx.length := by have := HP.out.fixed; omega
        have hG : goS (hopR v rs fx) (dotS v) fx (n + 1) x b = bAt b (if rd fx (x.length : Int) ≠ 0 then goS (hopR v rs fx) (dotS v) fx n (x ++ [1]) b else b) (if rd fx (x.length : Int) ≠ 1 then goS (hopR v rs fx) (dotS v) fx n (x ++ [0]) (if rd fx (x.length : Int) ≠ 0 then goS (hopR v rs fx) (dotS v) fx n (x ++ [1]) b else b) else (if rd fx (x.length : Int) ≠ 0 then goS (hopR v rs fx) (dotS v) fx n (x ++ [1]) b else b)) (-1) := by
          simp only [goS]
          rw [if_neg (by rw [hH]; decide), ← rd_nat]
          rfl
        generalize hb1 : (if rd fx (x.length : Int) ≠ 0 then goS (hopR v rs fx) (dotS v) fx n (x ++ [1]) b else b) = b1 at hG
        generalize hb2 : (if rd fx (x.length : Int) ≠ 1 then goS (hopR v rs fx) (dotS v) fx n (x ++ [0]) b1 else b1) = b2 at hG
        have hkind := fix_kind HP.out hlx
        have hstep : ∀ vv : Int, vv = 0 ∨ vv = 1 → bAt b b1 b2 (vv - 1) = if rd fx (x.length : Int) = -1 ∨ rd fx (x.length : Int) = vv then goS (hopR v rs fx) (dotS v) fx n (x ++ [vv]) (bAt b b1 b2 vv) else bAt b b1 b2 vv := by
          intro vv hvv
          rcases hvv with e | e <;> subst e
          · show b2 = if _ then goS _ _ _ n (x ++ [0]) b1 else b1
            rw [← hb2]
            rcases hkind with q | q | q <;> simp [q]
          · show b1 = if _ then goS _ _ _ n (x ++ [1]) b else b
            rw [← hb1]
            rcases hkind with q | q | q <;> simp [q]
        have HSTEP := Aside0.mk hstep
        have HGS := Aside0.mk hG
        have HLX := Aside0.mk hlx
        have HLF := Aside0.mk hlf
        have HXL := Aside0.mk (xmid_length (x := x) (fx := fx) (n := v.length) (by omega) HP.out.fixed)
        have t1 : (((x.length : Nat) : Int) == ((v.length : Nat) : Int)) = false := by rw [beq_eq_false_iff_ne]; omega
        have z0 : ((0 : Int) ≤ (x.length : Int)) = True := eq_true (by omega)
        have z1 : ((x.length : Int) < (v.length : Int)) = True := eq_true (by omega)
        have hcx : wc.cell? ⟨gx, x.length, none⟩ = some (.int .i64 (rd fx (x.length : Int))) := by
          refine (blk_cell HX1.out x.length).trans ?_
          rw [xrow_cell _ _ (by rw [HXL.out]; exact hlx), xmid_at hlf]
        have HXS := Aside0.mk (show wc.heap[gx]? = some (.cells (xrow ((xmid x fx).set x.length (rd fx (x.length : Int))) tl) 3 (0, 0)) by rw [xmid_self hlf]; exact HX1.out)
        have HIH := Aside0.mk (IH.out n rfl)
        clear hlx hlf hG hb1 hb2 hkind hstep hH IH
        go_wp2
        go_loopg [7] 3 (fun kq v7 w' => ∃ (vv c : Int) (Ab' : Option Addr) (nb' cp' : Nat) (top' : Int), v7 = .int .i64 vv ∧ Aside0 (-1 ≤ vv ∧ vv ≤ 1 ∧ vv + 1 < kq) ∧ Aside0 (But (Two g gx) w w') ∧
          Aside0 (w'.heap[g]? = some (.cells (rsrch gx A0 A1 A2 c0 c1 c2 cx v.length rs.length fx.length Ab' nb' cp' top') 61 (0, 0))) ∧ Aside0 (w'.heap[gx]? = some (.cells (xrow ((xmid x fx).set x.length c) tl) 3 (0, 0))) ∧ Aside0 (BestOk (Two g gx) base w' Ab' nb' cp' top' (bAt b b1 b2 vv)))
        case atStart => exact ⟨1, _, _, _, _, _, rfl, ⟨by decide⟩, HK1, HG1, HXS, HBO1⟩
        case round =>
          obtain ⟨vv, c, Ab', nb', cp', top', rfl, HI, HK, HG, HX', HBO⟩ := hrel
          have hc3 : wr.cell? ⟨g, 3, none⟩ = some (.slice (some ⟨gx, 0, none⟩) v.length cx) := (blk_cell HG.out 3).trans rfl
          have hcx : wr.cell? ⟨gx, x.length, none⟩ = some (.int .i64 c) := by
            refine (blk_cell HX'.out x.length).trans ?_
            rw [xrow_cell _ _ (by rw [List.length_set, HXL.out]; exact HLX.out), rd_nat]
            simp [HXL.out, HLX.out]
          have hzx := blk_frozen HX'.out x.length
          by_cases hge : vv ≥ 0
          · have cb : decide (vv ≥ 0) = true := decide_eq_true hge
            have hvv : vv = 0 ∨ vv = 1 := by have := HI.out; omega
            obtain ⟨k1, rfl⟩ : ∃ k1, gk = k1 + 1 := ⟨gk - 1, by have := HI.out; omega⟩
            have HVV := Aside0.mk hvv
            have HST := Aside0.mk (HSTEP.out vv hvv)
            have HW := Aside0.mk (show wrap64 (vv - 1) = vv - 1 by unfold wrap64; omega)
            by_cases hq : rd fx (x.length : Int) = -1 ∨ rd fx (x.length : Int) = vv
            · have hq' : (rd fx (x.length : Int) == -1) = true ∨ ((rd fx (x.length : Int) == -1) = false ∧ (rd fx (x.length : Int) == vv) = true) := by
                by_cases e : rd fx (x.length : Int) = -1
                · exact .inl (beq_iff_eq.mpr e)
                · exact .inr ⟨beq_eq_false_iff_ne.mpr e, beq_iff_eq.mpr (hq.resolve_left e)⟩
              have hs1 := HST.out
              rw [if_pos hq] at hs1
              have HS1 := Aside0.mk hs1
              have hxs : (wr.setCell ⟨gx, x.length, none⟩ (.int .i64 vv)).heap[gx]? = some (.cells (xrow (xmid (x ++ [vv]) fx) tl) 3 (0, 0)) := by
                refine blk_put HX'.out x.length (.int .i64 vv) ?_
                rw [xrow_set _ _ (by rw [List.length_set, HXL.out]; exact HLX.out), xmid_set HLF.out]
              have hgs := blk_far HG.out (p := ⟨gx, x.length, none⟩) (fun e => HNE.out e.symm) (.int .i64 vv)
              have hks := HK.out.set (p := ⟨gx, x.length, none⟩) (.inr rfl) (.int .i64 vv)
              have hk0 := (But.refl (Two g gx) wr).set (p := ⟨gx, x.length, none⟩) (.inr rfl) (.int .i64 vv)
              have hfs := HF0.out.but hks
              obtain ⟨adv, e, hxv⟩ := Kd.at_int (Kd.F_now hfs.V) (x.length : Int) (of_eq_true z0) (of_eq_true z1)
              cases e
              rw [Int.toNat_natCast] at hxv
              have hs0 : (wr.setCell ⟨gx, x.length, none⟩ (.int .i64 vv)).cell? ⟨g, 0, none⟩ = some (.slice (some adv) v.length c0) := (blk_cell hgs 0).trans rfl
              have HKS := Aside0.mk hks
              have HFS := Aside0.mk hfs
              have HGS2 := Aside0.mk hgs
              have HXS2 := Aside0.mk hxs
              have HBS := Aside0.mk (HBO.out.but hk0)
              clear hq hs1 hxs hgs hks hk0 hfs hvv hge
              rcases hq' with t2 | ⟨t2, t3⟩
              all_goals
                go_wp2_with (go_at_call 40; fail)
                have h40 := rbit_call g gx (some adv) A1 A2 Ab' c0 c1 c2 cx nb' cp' tl v rs fx x base n top' vv _ _ HP.out HIH.out HVV.out HN.out HXB.out (Nat.le_trans HBASE.out HKS.out.size) HFS.out HGS2.out HXS2.out HBS.out
                (with_reducible refine h40.mono ?_)
                rintro e wz ⟨rfl, hk, A3, n3, p3, top3, hg, hx, hB⟩
                have HK3 := Aside0.mk hk
                have HG3 := Aside0.mk hg
                have HX3 := Aside0.mk hx
                have HB3 := Aside0.mk hB
                clear hk hg hx hB h40 hc3 hcx hzx hxv hs0
                go_wp2
                go_roundg k1
                case measure => omega
                case rel =>
                  refine ⟨vv - 1, vv, A3, n3, p3, top3, by first | rfl | (simp [HW.out]; done), ⟨by have := HI.out; have := HVV.out; omega⟩, ⟨HKS.out.trans HK3.out⟩, HG3, ⟨?_⟩, ⟨?_⟩⟩
                  · rw [xmid_set1 HLF.out]
                    exact HX3.out
                  · rw [HS1.out]
                    exact HB3.out
            · have hq1 : (rd fx (x.length : Int) == -1) = false := beq_eq_false_iff_ne.mpr (fun e => hq (.inl e))
              have hq2 : (rd fx (x.length : Int) == vv) = false := beq_eq_false_iff_ne.mpr (fun e => hq (.inr e))
              have hs1 := HST.out
              rw [if_neg hq] at hs1
              have HS1 := Aside0.mk hs1
              clear hq hs1 hvv hge
              go_wp2
              go_roundg k1
              case measure => omega
              case rel =>
                refine ⟨vv - 1, c, Ab', nb', cp', top', by first | rfl | (simp [HW.out]; done), ⟨by have := HI.out; have := HVV.out; omega⟩, HK, HG, HX', ⟨?_⟩⟩
                rw [HS1.out]
                exact HBO.out
          · have cb : decide (vv ≥ 0) = false := decide_eq_false hge
            have hv1 : vv = -1 := by have := HI.out; omega
            subst hv1
            clear hge
            go_wp2
            go_end0
            have hk0 := (But.refl (Two g gx) wr).set (p := ⟨gx, x.length, none⟩) (.inr rfl) (.int .i64 (rd fx (x.length : Int)))
            refine ⟨rfl, HK.out.trans hk0, Ab', nb', cp', top', blk_far HG.out (p := ⟨gx, x.length, none⟩) (fun e => HNE.out e.symm) _, ?_, ?_⟩
            · refine blk_put HX'.out x.length _ ?_
              rw [xrow_set _ _ (by rw [List.length_set, HXL.out]; exact HLX.out), xmid_back HLF.out]
            · rw [HGS.out]
              exact HBO.out.but hk0
theorem rfrom_all (g gx : Nat) (A0 A1 A2 : Option Addr) (c0 c1 c2 cx : Nat) (tl : Array Value) (v : List Int) (rs : List S45) (fx : List Int) (hP : ValidP v rs fx) (hcx : v.length ≤ cx) (base : Nat) (hne : gx ≠ g) : ∀ n, RSpec g gx A0 A1 A2 c0 c1 c2 cx tl v rs fx base n
  | 0 => rfrom_any g gx A0 A1 A2 c0 c1 c2 cx tl v rs fx hP hcx base hne 0 (fun m h => by cases h)
  | n + 1 => rfrom_any g gx A0 A1 A2 c0 c1 c2 cx tl v rs fx hP hcx base hne (n + 1) (fun m h => by cases h; exact rfrom_all g gx A0 A1 A2 c0 c1 c2 cx tl v rs fx hP hcx base hne n)
end Go.Proofs.Ythicnegcpafkkaa.Search
