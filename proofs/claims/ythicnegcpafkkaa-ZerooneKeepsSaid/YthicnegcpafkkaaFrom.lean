/- (*search).from: the search below one assignment of the first variables. -/
import Derived.Test.YthicnegcpafkkaaAllx21
import Derived.Test.YthicnegcpafkkaaSets
import Derived.Test.YthicnegcpafkkaaTrack
set_option linter.unusedVariables false
set_option linter.unusedSimpArgs false
namespace Go.Proofs.Ythicnegcpafkkaa.Search
open Go.RowKit Go.Proofs.YthicnegcpafkkaaW.PrintWords Go.Proofs.YthicnegcpafkkaaW.PrintLast Go.Proofs.YthicnegcpafkkaaW.PrintMore Go.Proofs.Ythicnegcpafkkaa.All Go.Proofs.Ythicnegcpafkkaa.Spec
theorem But.mono {S T : Nat → Prop} {w W : World} (h : But S w W) (hs : ∀ k, S k → T k) : But T w W := ⟨h.os, h.tape, h.output, h.size, fun k hk hT => h.block k hk (fun q => hT (hs k q))⟩
theorem But.keep {S : Nat → Prop} {w W : World} {base : Nat} {va : Value} {y : List Int} (h : But S w W) (hr : Kd.R (Kd.int .i64) 3 w base (fun k => ¬ S k) va y) : Kd.R (Kd.int .i64) 3 W base (fun k => ¬ S k) va y :=
  Kd.R_step hr (fun k hk hlt => h.block k hlt hk)
/-- What is read through the search's own slices, and does not change. -/
structure Frame (S : Nat → Prop) (A0 A1 A2 Al Ah Ar : Option Addr) (v : List Int) (rs : List S45) (fx : List Int) (los his : List (List Int)) (rest : List Int) (w : World) : Prop where
  V : Kd.F (Kd.int .i64) w (fun k => ¬ S k) A0 v.length v
  R : Kd.F k45 w (fun k => ¬ S k) A1 rs.length rs
  F : Kd.F (Kd.int .i64) w (fun k => ¬ S k) A2 fx.length fx
  L : Kd.F (Kd.slice 3 (Kd.int .i64)) w (fun k => ¬ S k) Al los.length los
  H : Kd.F (Kd.slice 3 (Kd.int .i64)) w (fun k => ¬ S k) Ah his.length his
  r : Kd.F (Kd.int .i64) w (fun k => ¬ S k) Ar rest.length rest
theorem Frame.but {S : Nat → Prop} {A0 A1 A2 Al Ah Ar : Option Addr} {v : List Int} {rs : List S45} {fx : List Int} {los his : List (List Int)} {rest : List Int} {w W : World} (h : Frame S A0 A1 A2 Al Ah Ar v rs fx los his rest w) (k : But S w W) : Frame S A0 A1 A2 Al Ah Ar v rs fx los his rest W :=
  ⟨k.F h.V (fun _ q => q), k.F h.R (fun _ q => q), k.F h.F (fun _ q => q), k.F h.L (fun _ q => q), k.F h.H (fun _ q => q), k.F h.r (fun _ q => q)⟩
def BestOk (S : Nat → Prop) (base : Nat) (w : World) (Ab : Option Addr) (nb cp : Nat) (most : Int) (b : Best) : Prop :=
  BestIs Ab most b ∧ ∀ p, b = some p → Kd.R (Kd.int .i64) 3 w base (fun k => ¬ S k) (.slice Ab nb cp) p.1
theorem BestOk.but {S : Nat → Prop} {base : Nat} {w W : World} {Ab : Option Addr} {nb cp : Nat} {most : Int} {b : Best} (h : BestOk S base w Ab nb cp most b) (k : But S w W) : BestOk S base W Ab nb cp most b :=
  ⟨h.1, fun p hp => k.keep (h.2 p hp)⟩
abbrev srch (gs gx : Nat) (A0 A1 A2 Al Ah Ar : Option Addr) (c0 c1 c2 cl ch cr : Nat) (n m f : Nat) (value : Int) (Ab : Option Addr) (nb cp : Nat) (most : Int) : Array Value :=
  #[.slice A0 n c0, .slice A1 m c1, .slice A2 f c2, .slice Al m cl, .slice Ah m ch, .slice Ar (n + 1) cr, .slice (some ⟨gs, 0, none⟩) m m, .slice (some ⟨gx, 0, none⟩) n n, .int .i64 value, .slice Ab nb cp, .int .i64 most]
abbrev Three (g gs gx k : Nat) : Prop := k = g ∨ k = gs ∨ k = gx
theorem hop_call (g gs gx : Nat) (A0 A1 A2 Al Ah Ar Ab : Option Addr) (c0 c1 c2 cl ch cr nb cp : Nat) (v : List Int) (rs : List S45) (fx x : List Int) (most : Int) (b : Best) (base : Nat) (w : World) (hP : ValidP v rs fx) (hx : x.all isBit = true) (hl : x.length ≤ v.length)
    (hF : Frame (Three g gs gx) A0 A1 A2 Al Ah Ar v rs fx (rs.map fun r => tabLo r.f0 fx) (rs.map fun r => tabHi r.f0 fx) (tabHi v fx) w)
    (hb : w.heap[g]? = some (.cells (srch gs gx A0 A1 A2 Al Ah Ar c0 c1 c2 cl ch cr v.length rs.length fx.length (dotS v x) Ab nb cp most) 58 (0, 0)))
    (hs : w.heap[gs]? = some (.cells (ints (sumsOf rs x)) 3 (0, 0))) (hB : BestOk (Three g gs gx) base w Ab nb cp most b) :
    Calls Try.prog 44 #[.pointer (some ⟨g, 0, none⟩), .int .i64 (x.length : Int)] w fun e w' => e = .returned (.bool (hopP v rs fx x b)) ∧ Below w.heap.size w w' := by
  have e1 := sumsOf_length rs x
  have e2 : (rs.map fun r => tabLo r.f0 fx).length = rs.length := List.length_map ..
  have e3 : (rs.map fun r => tabHi r.f0 fx).length = rs.length := List.length_map ..
  have e4 := tabHi_length v fx
  have hl1 : ∀ l ∈ (rs.map fun r => tabLo r.f0 fx), l.length = (tabHi v fx).length := by
    intro l hl
    obtain ⟨r, hr, rfl⟩ := List.mem_map.1 hl
    rw [tabLo_length, tabHi_length, (hP.row hr).1]
  have hl2 : ∀ l ∈ (rs.map fun r => tabHi r.f0 fx), l.length = (tabHi v fx).length := by
    intro l hl
    obtain ⟨r, hr, rfl⟩ := List.mem_map.1 hl
    rw [tabHi_length, tabHi_length, (hP.row hr).1]
  exact hop_walk g gs A0 A1 Al Ah Ar Ab v.length c0 c1 cl ch cr nb cp (.slice A2 fx.length c2) (.slice (some ⟨gx, 0, none⟩) v.length v.length) (dotS v x) most (x.length : Int) rs _ _ (tabHi v fx) (sumsOf rs x) _ w
    (by rw [e1, e2, e3, e4]; exact hb) hs (Kd.F_now hF.R) (Kd.F_now hF.L) (Kd.F_now hF.H) (Kd.F_now hF.r) (by omega) (by omega) ⟨e1, e2, e3⟩ hl1 hl2 (hop_eq hP hx hl hB.1)
theorem set_call (g gs gx : Nat) (A0 A1 A2 Al Ah Ar Ab : Option Addr) (c0 c1 c2 cl ch cr nb cp : Nat) (v : List Int) (rs : List S45) (fx y z : List Int) (los his : List (List Int)) (rest : List Int) (most sg : Int) (pos : Nat) (o : Obj) (w : World) (hP : ValidP v rs fx) (hpos : pos < v.length)
    (hne : g ≠ gs ∧ gx ≠ g ∧ gx ≠ gs) (hF : Frame (Three g gs gx) A0 A1 A2 Al Ah Ar v rs fx los his rest w)
    (hval : wrap64 (dotS v y + wrap64 (sg * rd v (pos : Int))) = dotS v z) (hsum : addS sg (pos : Int) rs (sumsOf rs y) = sumsOf rs z)
    (hb : w.heap[g]? = some (.cells (srch gs gx A0 A1 A2 Al Ah Ar c0 c1 c2 cl ch cr v.length rs.length fx.length (dotS v y) Ab nb cp most) 58 (0, 0)))
    (hs : w.heap[gs]? = some (.cells (ints (sumsOf rs y)) 3 (0, 0))) (hx : w.heap[gx]? = some o) :
    Calls Try.prog 45 #[.pointer (some ⟨g, 0, none⟩), .int .i64 (pos : Int), .int .i64 sg] w fun e w' => e = .returned (.tuple #[]) ∧ But (Three g gs gx) w w' ∧
      w'.heap[g]? = some (.cells (srch gs gx A0 A1 A2 Al Ah Ar c0 c1 c2 cl ch cr v.length rs.length fx.length (dotS v z) Ab nb cp most) 58 (0, 0)) ∧ w'.heap[gs]? = some (.cells (ints (sumsOf rs z)) 3 (0, 0)) ∧ w'.heap[gx]? = some o := by
  have e1 := sumsOf_length rs y
  have hc : ∀ r ∈ rs, r.f0.length = v.length := fun r hr => (hP.row hr).1
  have two : ∀ k, ¬ Three g gs gx k → k ≠ g ∧ k ≠ gs := fun k hk => ⟨fun e => hk (.inl e), fun e => hk (.inr (.inl e))⟩
  have h := set_walk g gs A0 A1 c0 c1 (.slice A2 fx.length c2) (.slice Al rs.length cl) (.slice Ah rs.length ch) (.slice Ar (v.length + 1) cr) (.slice (some ⟨gx, 0, none⟩) v.length v.length) (.slice Ab nb cp) (dotS v y) most (pos : Int) sg v rs (sumsOf rs y) w
    (by rw [e1]; exact hb) hs hne.1 (Kd.F_mono hF.V two) (Kd.F_mono hF.R two) (by omega) (by omega) e1 hc
  refine h.mono ?_
  rintro e w' ⟨rfl, h1, h2, h3⟩
  rw [e1, hval] at h2
  rw [hsum] at h3
  exact ⟨rfl, h1.mono (fun k hk => hk.elim .inl (fun q => .inr (.inl q))), h2, h3, h1.blk hx (fun q => q.elim hne.2.1 hne.2.2)⟩
theorem C_ints {w : World} {g : Nat} {t : TypeId} {l : List Int} (h : w.heap[g]? = some (.cells (ints l) t (0, 0))) (hm : l.length ≤ 9223372036854775807) : Kd.C (Kd.int .i64) w (some ⟨g, 0, none⟩) l.length l :=
  ⟨rfl, hm, fun _ => ⟨⟨g, 0, none⟩, rfl, fun j p hp => ⟨[.int .i64 p], rfl, rfl, fun i u hu => by
    match i, hu with
    | 0, hu =>
      cases hu
      have h1 : w.cell? ⟨g, j, none⟩ = (ints l)[j]? := blk_cell h j
      have h2 : (Addr.mk g 0 none).add (j * 1 + 0) = ⟨g, j, none⟩ := by
        cases j with
        | zero => rfl
        | succ j => simp [Addr.add]
      show w.cell? ((Addr.mk g 0 none).add (j * 1 + 0)) = _
      rw [h2, h1]
      simp [ints, hp]⟩⟩⟩
theorem clone_call (gx m : Nat) (x : List Int) (W : World) (h : W.heap[gx]? = some (.cells (ints x) 3 (0, 0))) (hm : x.length = m) (hs : m ≤ 24) :
    Calls Try.prog 33 #[.slice (some ⟨gx, 0, none⟩) m m] W fun e w' => ∃ v0_ : Value, e = .returned (v0_) ∧ Kd.R (Kd.int .i64) 3 w' W.heap.size (fun _ => True) v0_ x ∧ Below W.heap.size W w' := by
  subst hm
  exact slices_Clone_int_int.calls (some ⟨gx, 0, none⟩) x.length x x W (C_ints h (by omega)) (Nat.le_refl _) (by unfold slices_Clone_int_int.f; rw [if_pos (by omega)])
def bitsUp (n : Nat) (x : List Int) : List Int := x ++ List.replicate n 0
theorem bitsUp_length (n : Nat) (x : List Int) : (bitsUp n x).length = x.length + n := by simp [bitsUp]
theorem bitsUp_one (n : Nat) (x : List Int) : (ints (bitsUp (n + 1) x)).setIfInBounds x.length (.int .i64 1) = ints (bitsUp n (x ++ [1])) := by
  simp [bitsUp, ints, List.replicate_succ, List.set_append]
theorem bitsUp_back (n : Nat) (x : List Int) : (ints (bitsUp n (x ++ [1]))).setIfInBounds x.length (.int .i64 0) = ints (bitsUp (n + 1) x) := by
  simp [bitsUp, ints, List.replicate_succ, List.set_append]
theorem bitsUp_cell (n : Nat) (x : List Int) : (ints (bitsUp (n + 1) x))[x.length]? = some (.int .i64 0) := by simp [bitsUp, ints, List.replicate_succ]
theorem bitsUp_cell1 (n : Nat) (x : List Int) : (ints (bitsUp n (x ++ [1])))[x.length]? = some (.int .i64 1) := by simp [bitsUp, ints]
theorem bitsUp_zero (n : Nat) (x : List Int) : bitsUp (n + 1) x = bitsUp n (x ++ [0]) := by simp [bitsUp, List.replicate_succ]
/-- What from comes to, with n variables remaining. -/
def FromSpec (g gs gx : Nat) (A0 A1 A2 Al Ah Ar : Option Addr) (c0 c1 c2 cl ch cr : Nat) (v : List Int) (rs : List S45) (fx : List Int) (base : Nat) (n : Nat) : Prop := ∀ (x : List Int) (b : Best) (Ab : Option Addr) (nb cp : Nat) (most : Int) (w : World),
    x.length + n = v.length → x.all isBit = true → base ≤ w.heap.size → Frame (Three g gs gx) A0 A1 A2 Al Ah Ar v rs fx (rs.map fun r => tabLo r.f0 fx) (rs.map fun r => tabHi r.f0 fx) (tabHi v fx) w →
    w.heap[g]? = some (.cells (srch gs gx A0 A1 A2 Al Ah Ar c0 c1 c2 cl ch cr v.length rs.length fx.length (dotS v x) Ab nb cp most) 58 (0, 0)) →
    w.heap[gs]? = some (.cells (ints (sumsOf rs x)) 3 (0, 0)) → w.heap[gx]? = some (.cells (ints (bitsUp n x)) 3 (0, 0)) → BestOk (Three g gs gx) base w Ab nb cp most b →
    Calls Try.prog 39 #[.pointer (some ⟨g, 0, none⟩), .int .i64 (x.length : Int)] w fun e w' => e = .returned (.tuple #[]) ∧ But (Three g gs gx) w w' ∧ ∃ Ab' nb' cp' most',
      w'.heap[g]? = some (.cells (srch gs gx A0 A1 A2 Al Ah Ar c0 c1 c2 cl ch cr v.length rs.length fx.length (dotS v x) Ab' nb' cp' most') 58 (0, 0)) ∧
      w'.heap[gs]? = some (.cells (ints (sumsOf rs x)) 3 (0, 0)) ∧ w'.heap[gx]? = some (.cells (ints (bitsUp n x)) 3 (0, 0)) ∧ BestOk (Three g gs gx) base w' Ab' nb' cp' most' (goS (hopP v rs fx) (dotS v) fx n x b)
theorem one_call (g gs gx : Nat) (A0 A1 A2 Al Ah Ar Ab : Option Addr) (c0 c1 c2 cl ch cr nb cp : Nat) (v : List Int) (rs : List S45) (fx x : List Int) (base n : Nat) (most : Int) (b : Best) (w : World) (ih : FromSpec g gs gx A0 A1 A2 Al Ah Ar c0 c1 c2 cl ch cr v rs fx base n) (hv : v.length ≤ 24)
    (hxn : x.length + (n + 1) = v.length) (hx : x.all isBit = true) (hbase : base ≤ w.heap.size) (hF : Frame (Three g gs gx) A0 A1 A2 Al Ah Ar v rs fx (rs.map fun r => tabLo r.f0 fx) (rs.map fun r => tabHi r.f0 fx) (tabHi v fx) w)
    (hb : w.heap[g]? = some (.cells (srch gs gx A0 A1 A2 Al Ah Ar c0 c1 c2 cl ch cr v.length rs.length fx.length (dotS v (x ++ [1])) Ab nb cp most) 58 (0, 0)))
    (hs : w.heap[gs]? = some (.cells (ints (sumsOf rs (x ++ [1]))) 3 (0, 0))) (hxx : w.heap[gx]? = some (.cells (ints (bitsUp n (x ++ [1]))) 3 (0, 0))) (hB : BestOk (Three g gs gx) base w Ab nb cp most b) :
    Calls Try.prog 39 #[.pointer (some ⟨g, 0, none⟩), .int .i64 (wrap64 ((x.length : Int) + 1))] w fun e w' => e = .returned (.tuple #[]) ∧ But (Three g gs gx) w w' ∧ ∃ Ab' nb' cp' most',
      w'.heap[g]? = some (.cells (srch gs gx A0 A1 A2 Al Ah Ar c0 c1 c2 cl ch cr v.length rs.length fx.length (dotS v (x ++ [1])) Ab' nb' cp' most') 58 (0, 0)) ∧
      w'.heap[gs]? = some (.cells (ints (sumsOf rs (x ++ [1]))) 3 (0, 0)) ∧ w'.heap[gx]? = some (.cells (ints (bitsUp n (x ++ [1]))) 3 (0, 0)) ∧ BestOk (Three g gs gx) base w' Ab' nb' cp' most' (goS (hopP v rs fx) (dotS v) fx n (x ++ [1]) b) := by
  have h := ih (x ++ [1]) b Ab nb cp most w (by simp; omega) (by rw [List.all_append, hx]; decide) hbase hF hb hs hxx hB
  rw [List.length_append, List.length_singleton, ← wrap_nat (by omega)] at h
  exact h
theorem zero_call (g gs gx : Nat) (A0 A1 A2 Al Ah Ar Ab : Option Addr) (c0 c1 c2 cl ch cr nb cp : Nat) (v : List Int) (rs : List S45) (fx x : List Int) (hP : ValidP v rs fx) (base n : Nat) (most : Int) (b : Best) (w : World) (ih : FromSpec g gs gx A0 A1 A2 Al Ah Ar c0 c1 c2 cl ch cr v rs fx base n)
    (hxn : x.length + (n + 1) = v.length) (hx : x.all isBit = true) (hbase : base ≤ w.heap.size) (hF : Frame (Three g gs gx) A0 A1 A2 Al Ah Ar v rs fx (rs.map fun r => tabLo r.f0 fx) (rs.map fun r => tabHi r.f0 fx) (tabHi v fx) w)
    (hb : w.heap[g]? = some (.cells (srch gs gx A0 A1 A2 Al Ah Ar c0 c1 c2 cl ch cr v.length rs.length fx.length (dotS v x) Ab nb cp most) 58 (0, 0)))
    (hs : w.heap[gs]? = some (.cells (ints (sumsOf rs x)) 3 (0, 0))) (hxx : w.heap[gx]? = some (.cells (ints (bitsUp (n + 1) x)) 3 (0, 0))) (hB : BestOk (Three g gs gx) base w Ab nb cp most b) :
    Calls Try.prog 39 #[.pointer (some ⟨g, 0, none⟩), .int .i64 (wrap64 ((x.length : Int) + 1))] w fun e w' => e = .returned (.tuple #[]) ∧ But (Three g gs gx) w w' ∧ ∃ Ab' nb' cp' most',
      w'.heap[g]? = some (.cells (srch gs gx A0 A1 A2 Al Ah Ar c0 c1 c2 cl ch cr v.length rs.length fx.length (dotS v x) Ab' nb' cp' most') 58 (0, 0)) ∧
      w'.heap[gs]? = some (.cells (ints (sumsOf rs x)) 3 (0, 0)) ∧ w'.heap[gx]? = some (.cells (ints (bitsUp (n + 1) x)) 3 (0, 0)) ∧ BestOk (Three g gs gx) base w' Ab' nb' cp' most' (goS (hopP v rs fx) (dotS v) fx n (x ++ [0]) b) := by
  have hv := hP.vars
  have e1 := dot_zero v x (by omega)
  have e2 := sums_zero hP (x := x) (by omega)
  have e3 := bitsUp_zero n x
  have h := ih (x ++ [0]) b Ab nb cp most w (by simp; omega) (by rw [List.all_append, hx]; decide) hbase hF (by rw [e1]; exact hb) (by rw [e2]; exact hs) (by rw [← e3]; exact hxx) hB
  rw [List.length_append, List.length_singleton, ← wrap_nat (by omega), e1, e2, ← e3] at h
  exact h
end Go.Proofs.Ythicnegcpafkkaa.Search
set_option linter.unusedVariables false
set_option linter.unusedSimpArgs false
namespace Go.Proofs.Ythicnegcpafkkaa.Search
open Go.RowKit Go.Proofs.YthicnegcpafkkaaW.PrintWords Go.Proofs.YthicnegcpafkkaaW.PrintLast Go.Proofs.YthicnegcpafkkaaW.PrintMore Go.Proofs.Ythicnegcpafkkaa.All Go.Proofs.Ythicnegcpafkkaa.Spec
set_option maxHeartbeats 8000000 in
set_option maxRecDepth 100000 in
theorem from_zero (g gs gx : Nat) (A0 A1 A2 Al Ah Ar : Option Addr) (c0 c1 c2 cl ch cr : Nat) (v : List Int) (rs : List S45) (fx : List Int) (hP : ValidP v rs fx) (base : Nat) (hne : g ≠ gs ∧ gx ≠ g ∧ gx ≠ gs) : FromSpec g gs gx A0 A1 A2 Al Ah Ar c0 c1 c2 cl ch cr v rs fx base 0 := by
  intro x b Ab nb cp most w hxn hxb hbase hF hb hs hxx hB
  have HOP := hop_call g gs gx A0 A1 A2 Al Ah Ar Ab c0 c1 c2 cl ch cr nb cp v rs fx x most b base w hP hxb (by omega) hF hb hs hB
  have HX := Aside0.mk hxx
  have HBB := Aside0.mk hb
  have HS := Aside0.mk hs
  have HF := Aside0.mk hF
  have HBO := Aside0.mk hB
  have HN := Aside0.mk hxn
  have HBASE := Aside0.mk hbase
  have HP := Aside0.mk hP
  have HNE := Aside0.mk hne
  have HXB := Aside0.mk hxb
  clear hxx hb hs hF hB hxn hbase hP hne hxb
  cases hH : hopP v rs fx x b with
  | true =>
    have HG := Aside0.mk (show goS (hopP v rs fx) (dotS v) fx 0 x b = b by simp only [goS]; rw [if_pos hH])
    rw [hH] at HOP
    clear hH
    go_enter Try.func39, Try.ntmps39
    go_wp2_with (go_at_call 44; (with_reducible refine HOP.mono ?_); rintro e w1 ⟨rfl, hb1⟩; have HB1 := Aside0.mk hb1; clear hb1)
    ((try simp only [Exit.inBlock, Exit.then]); refine bodyPost_ret (results_none rfl _ _ _) rfl ?_)
    have hk := But.of_below (S := Three g gs gx) HB1.out
    refine ⟨rfl, hk, Ab, nb, cp, most, blk_below HBB.out HB1.out, blk_below HS.out HB1.out, blk_below HX.out HB1.out, ?_⟩
    rw [HG.out]
    exact HBO.out.but hk
  | false =>
    have HG := Aside0.mk (show goS (hopP v rs fx) (dotS v) fx 0 x b = some (x, dotS v x) by simp only [goS]; rw [if_neg (by rw [hH]; decide)])
    rw [hH] at HOP
    clear hH
    have t1 : (((x.length : Nat) : Int) == ((v.length : Nat) : Int)) = true := by rw [beq_iff_eq]; have := HN.out; omega
    go_enter Try.func39, Try.ntmps39
    go_wp2_with (go_at_call 44; (with_reducible refine HOP.mono ?_); rintro e w1 ⟨rfl, hb1⟩; have HB1 := Aside0.mk hb1; have hc7 : w1.cell? ⟨g, 7, none⟩ = some (.slice (some ⟨gx, 0, none⟩) v.length v.length) := (blk_cell (blk_below HBB.out hb1) 7).trans rfl; clear hb1)
    have hc8 : w1.cell? ⟨g, 8, none⟩ = some (.int .i64 (dotS v x)) := (blk_cell (blk_below HBB.out HB1.out) 8).trans rfl
    have HX1 := Aside0.mk (blk_below HX.out HB1.out)
    have hcl : ∀ W : World, W.heap[gx]? = some (.cells (ints x) 3 (0, 0)) → _ := fun W h => clone_call gx v.length x W h (by have := HN.out; omega) HP.out.vars
    have hx0 : bitsUp 0 x = x := by simp [bitsUp]
    rw [hx0] at HX1
    have HCL := Aside0.mk hcl
    clear hcl hx0
    have HG1 := Aside0.mk (blk_drew (blk_below HBB.out HB1.out))
    go_region_with (go_at_call 33; (with_reducible refine (HCL.out w1.drew (blk_drew HX1.out)).mono ?_); rintro e w2 ⟨v0, rfl, hr, hb2⟩; obtain ⟨Av, cv, rfl⟩ := Kd.R_slice hr; have HR2 := Aside0.mk hr; have HB2 := Aside0.mk hb2; have HG2 := Aside0.mk (blk_below HG1.out hb2); have hc8' : w2.cell? ⟨g, 8, none⟩ = some (.int .i64 (dotS v x)) := (blk_cell HG2.out 8).trans rfl; have hc9 : w2.cell? ⟨g, 9, none⟩ = some (.slice Ab nb cp) := (blk_cell HG2.out 9).trans rfl; have hc10 : w2.cell? ⟨g, 10, none⟩ = some (.int .i64 most) := (blk_cell HG2.out 10).trans rfl; have hz9 := blk_frozen HG2.out 9; have hz10 := blk_frozen HG2.out 10; clear hr hb2)
    all_goals
      have hg : g < w.heap.size := blk_lt HBB.out
      have hgs : gs < w.heap.size := blk_lt HS.out
      have hgx : gx < w.heap.size := blk_lt HX.out
      have hk2 : But (Three g gs gx) w w2 := ((But.of_below HB1.out).trans (But.of_below (below_drew (Below.refl _ _)))).trans (But.of_below HB2.out)
      have hk3 := (hk2.set (p := ⟨g, 9, none⟩) (.inl rfl) (.slice Av x.length cv)).set (p := ⟨g, 10, none⟩) (.inl rfl) (.int .i64 (dotS v x))
      have hk4 : But (Three g gs gx) w2 _ := ((But.refl _ w2).set (p := ⟨g, 9, none⟩) (.inl rfl) (.slice Av x.length cv)).set (p := ⟨g, 10, none⟩) (.inl rfl) (.int .i64 (dotS v x))
      have hr2 : Kd.R (Kd.int .i64) 3 w2 base (fun k => ¬ Three g gs gx k) (.slice Av x.length cv) x :=
        Kd.R_lower (Kd.R_mono (Kd.R_bound HR2.out) (fun k hk => by
          have h1 := hk.2.1
          have h2 : w1.heap.size ≤ k := h1
          have h3 := HB1.out.size
          rintro (h | h | h) <;> omega)) (Nat.le_trans HBASE.out HB1.out.size)
      have hr3 := hk4.keep hr2
      have hg3 : ((w2.setCell ⟨g, 9, none⟩ (.slice Av x.length cv)).setCell ⟨g, 10, none⟩ (.int .i64 (dotS v x))).heap[g]? = some (.cells (srch gs gx A0 A1 A2 Al Ah Ar c0 c1 c2 cl ch cr v.length rs.length fx.length (dotS v x) Av x.length cv (dotS v x)) 58 (0, 0)) := blk_put (blk_put HG2.out 9 _ rfl) 10 _ rfl
      have hs3 : ((w2.setCell ⟨g, 9, none⟩ (.slice Av x.length cv)).setCell ⟨g, 10, none⟩ (.int .i64 (dotS v x))).heap[gs]? = some (.cells (ints (sumsOf rs x)) 3 (0, 0)) := blk_far (blk_far (blk_below (blk_drew (blk_below HS.out HB1.out)) HB2.out) (p := ⟨g, 9, none⟩) (fun e => HNE.out.1 e.symm) _) (p := ⟨g, 10, none⟩) (fun e => HNE.out.1 e.symm) _
      have hx3 : ((w2.setCell ⟨g, 9, none⟩ (.slice Av x.length cv)).setCell ⟨g, 10, none⟩ (.int .i64 (dotS v x))).heap[gx]? = some (.cells (ints (bitsUp 0 x)) 3 (0, 0)) := blk_far (blk_far (blk_below (blk_drew (blk_below HX.out HB1.out)) HB2.out) (p := ⟨g, 9, none⟩) HNE.out.2.1 _) (p := ⟨g, 10, none⟩) HNE.out.2.1 _
      clear hk2 hk4 hr2 hg hgs hgx
      generalize (w2.setCell ⟨g, 9, none⟩ (.slice Av x.length cv)).setCell ⟨g, 10, none⟩ (.int .i64 (dotS v x)) = w3 at hk3 hr3 hg3 hs3 hx3 ⊢
      have HK3 := Aside0.mk hk3
      have HR3 := Aside0.mk hr3
      have HG3 := Aside0.mk hg3
      have HS3 := Aside0.mk hs3
      have HX3 := Aside0.mk hx3
      clear hk3 hr3 hg3 hs3 hx3
      have hc9'' : w3.cell? ⟨g, 9, none⟩ = some (.slice Av x.length cv) := (blk_cell HG3.out 9).trans rfl
      have hz9' := blk_frozen HG3.out 9
      have hq := fun w' => Lib.run_eql_slice_nil (P := Try.prog) w' 22 3 Av x.length cv 0 0 Try.underlying22
      cases Av with
      | some av =>
        go_wp2
        ((try simp only [Exit.inBlock, Exit.then]); refine bodyPost_ret (results_none rfl _ _ _) rfl ?_)
        refine ⟨rfl, HK3.out, some av, x.length, cv, dotS v x, HG3.out, HS3.out, HX3.out, ?_⟩
        rw [HG.out]
        exact ⟨⟨rfl, rfl⟩, fun p hp => by cases hp; exact HR3.out⟩
      | none =>
        have hca : ∀ o, (w3.alloc o).cell? ⟨g, 9, none⟩ = some (.slice none x.length cv) := fun o => (blk_cell (blk_alloc HG3.out o) 9).trans rfl
        have hza : ∀ o, (w3.alloc o).frozen? ⟨g, 9, none⟩ = false := fun o => blk_frozen (blk_alloc HG3.out o) 9
        go_wp2
        ((try simp only [Exit.inBlock, Exit.then]); refine bodyPost_ret (results_none rfl _ _ _) rfl ?_)
        have hx0 : x = [] := by
          obtain ⟨inner, ho⟩ := Kd.R_own HR3.out
          rcases ho.2 with ⟨_, h⟩ | ⟨g', cap, cur, h, _⟩
          · exact List.eq_nil_of_length_eq_zero h
          · cases h
        subst hx0
        have hsz : base ≤ w3.heap.size := Nat.le_trans HBASE.out HK3.out.size
        have hlt : ∀ k, Three g gs gx k → k < w3.heap.size := by
          rintro k (h | h | h) <;> subst h
          · exact blk_lt HG3.out
          · exact blk_lt HS3.out
          · exact blk_lt HX3.out
        have hrn : Kd.R (Kd.int .i64) 3 (w3.alloc (.cells #[] 3)) base (fun k => ¬ Three g gs gx k) (.slice (some ⟨w3.heap.size, 0, none⟩) 0 0) [] :=
          Kd.R_of_own (World.ownsRow_lit (base := base) (e := 3) (size := 1) w3 #[] 0 hsz (by simp [maxLen]) (by simp)) (fun k hk h => by
            have h1 := hlt k h
            simp [Value.ownBlock] at hk
            omega)
        have hka : But (Three g gs gx) (w3.alloc (.cells #[] 3)) _ := (But.refl _ (w3.alloc (.cells #[] 3))).set (p := ⟨g, 9, none⟩) (.inl rfl) (.slice (some ⟨w3.heap.size, 0, none⟩) 0 0)
        refine ⟨rfl, (HK3.out.trans (But.of_below (below_alloc (Below.refl _ _) _))).trans hka, some ⟨w3.heap.size, 0, none⟩, 0, 0, _, blk_put (blk_alloc HG3.out _) 9 _ rfl, blk_far (blk_alloc HS3.out _) (p := ⟨g, 9, none⟩) (fun e => HNE.out.1 e.symm) _, blk_far (blk_alloc HX3.out _) (p := ⟨g, 9, none⟩) HNE.out.2.1 _, ?_⟩
        rw [HG.out]
        exact ⟨⟨rfl, rfl⟩, fun p hp => by cases hp; exact hka.keep hrn⟩
end Go.Proofs.Ythicnegcpafkkaa.Search
set_option linter.unusedVariables false
set_option linter.unusedSimpArgs false
namespace Go.Proofs.Ythicnegcpafkkaa.Search
open Go.RowKit Go.Proofs.YthicnegcpafkkaaW.PrintWords Go.Proofs.YthicnegcpafkkaaW.PrintLast Go.Proofs.YthicnegcpafkkaaW.PrintMore Go.Proofs.Ythicnegcpafkkaa.All Go.Proofs.Ythicnegcpafkkaa.Spec
set_option maxHeartbeats 8000000 in
set_option maxRecDepth 100000 in
theorem from_succ (g gs gx : Nat) (A0 A1 A2 Al Ah Ar : Option Addr) (c0 c1 c2 cl ch cr : Nat) (v : List Int) (rs : List S45) (fx : List Int) (hP : ValidP v rs fx) (base : Nat) (hne : g ≠ gs ∧ gx ≠ g ∧ gx ≠ gs) (n : Nat) (ih : FromSpec g gs gx A0 A1 A2 Al Ah Ar c0 c1 c2 cl ch cr v rs fx base n) : FromSpec g gs gx A0 A1 A2 Al Ah Ar c0 c1 c2 cl ch cr v rs fx base (n + 1) := by
  intro x b Ab nb cp most w hxn hxb hbase hF hb hs hxx hB
  have HOP := hop_call g gs gx A0 A1 A2 Al Ah Ar Ab c0 c1 c2 cl ch cr nb cp v rs fx x most b base w hP hxb (by omega) hF hb hs hB
  have HX := Aside0.mk hxx
  have HBB := Aside0.mk hb
  have HS := Aside0.mk hs
  have HF := Aside0.mk hF
  have HBO := Aside0.mk hB
  have HN := Aside0.mk hxn
  have HBASE := Aside0.mk hbase
  have HP := Aside0.mk hP
  have HNE := Aside0.mk hne
  have HXB := Aside0.mk hxb
  have IH := Aside0.mk ih
  clear hxx hb hs hF hB hxn hbase hP hne hxb ih
  cases hH : hopP v rs fx x b with
  | true =>
    have HG := Aside0.mk (show goS (hopP v rs fx) (dotS v) fx (n + 1) x b = b by simp only [goS]; rw [if_pos hH])
    rw [hH] at HOP
    clear hH
    go_enter Try.func39, Try.ntmps39
    go_wp2_with (go_at_call 44; (with_reducible refine HOP.mono ?_); rintro e w1 ⟨rfl, hb1⟩; have HB1 := Aside0.mk hb1; clear hb1)
    ((try simp only [Exit.inBlock, Exit.then]); refine bodyPost_ret (results_none rfl _ _ _) rfl ?_)
    have hk := But.of_below (S := Three g gs gx) HB1.out
    refine ⟨rfl, hk, Ab, nb, cp, most, blk_below HBB.out HB1.out, blk_below HS.out HB1.out, blk_below HX.out HB1.out, ?_⟩
    rw [HG.out]
    exact HBO.out.but hk
  | false =>
    have HG : goS (hopP v rs fx) (dotS v) fx (n + 1) x b = (let b1 := if fx.getD x.length 0 ≠ 0 then goS (hopP v rs fx) (dotS v) fx n (x ++ [1]) b else b
      if fx.getD x.length 0 ≠ 1 then goS (hopP v rs fx) (dotS v) fx n (x ++ [0]) b1 else b1) := by simp only [goS]; rw [if_neg (by rw [hH]; decide)]
    rw [← rd_nat] at HG
    have HG' := Aside0.mk HG
    rw [hH] at HOP
    clear hH HG
    have t1 : (((x.length : Nat) : Int) == ((v.length : Nat) : Int)) = false := by rw [beq_eq_false_iff_ne]; have := HN.out; omega
    have hlx : x.length < v.length := by have := HN.out; omega
    have hlf : x.length < fx.length := by have := HP.out.fixed; omega
    obtain ⟨adf, e, hxf⟩ := Kd.at_int (Kd.F_now HF.out.F) (x.length : Int) (by omega) (by omega)
    cases e
    rw [Int.toNat_natCast] at hxf
    have z0 : ((0 : Int) ≤ (x.length : Int)) = True := eq_true (by omega)
    have z1 : ((x.length : Int) < (fx.length : Int)) = True := eq_true (by omega)
    have z2 : ((x.length : Int) < (v.length : Int)) = True := eq_true (by omega)
    have HLX := Aside0.mk hlx
    clear hlx hlf
    go_enter Try.func39, Try.ntmps39
    by_cases q0 : rd fx (x.length : Int) = 0
    · have q0b : (rd fx (x.length : Int) == 0) = true := beq_iff_eq.mpr q0
      have q1b : (rd fx (x.length : Int) == 1) = false := by rw [q0]; rfl
      have q0c : (rd fx (x.length : Int) != 0) = false := by rw [q0]; rfl
      have q1c : (rd fx (x.length : Int) != 1) = true := by rw [q0]; rfl
      clear q0
      go_wp2_with (go_at_call 44; (with_reducible refine HOP.mono ?_); rintro e w1 ⟨rfl, hb1⟩; have HB1 := Aside0.mk hb1; have hc7 : w1.cell? ⟨g, 7, none⟩ = some (.slice (some ⟨gx, 0, none⟩) v.length v.length) := (blk_cell (blk_below HBB.out hb1) 7).trans rfl; have hc2 : w1.cell? ⟨g, 2, none⟩ = some (.slice (some adf) fx.length c2) := (blk_cell (blk_below HBB.out hb1) 2).trans rfl; replace hxf := (hb1.cell (World.block_lt_of_cell? w _ hxf)).trans hxf; clear hb1)
      have hk1 := But.of_below (S := Three g gs gx) HB1.out
      have h39 := zero_call g gs gx A0 A1 (some adf) Al Ah Ar Ab c0 c1 c2 cl ch cr nb cp v rs fx x HP.out base n most b w1 IH.out HN.out HXB.out (Nat.le_trans HBASE.out HB1.out.size) (HF.out.but hk1) (blk_below HBB.out HB1.out) (blk_below HS.out HB1.out) (blk_below HX.out HB1.out) (HBO.out.but hk1)
      have HK1 := Aside0.mk hk1
      clear hk1
      (with_reducible refine h39.mono ?_)
      rintro e w2 ⟨rfl, hk2, Ab', nb', cp', most', hg2, hs2, hx2, hB2⟩
      have HK2 := Aside0.mk hk2
      have HG2 := Aside0.mk hg2
      have HS2 := Aside0.mk hs2
      have HX2 := Aside0.mk hx2
      have HB2 := Aside0.mk hB2
      clear hk2 hg2 hs2 hx2 hB2 h39
      go_wp2
      go_end0
      refine ⟨rfl, HK1.out.trans HK2.out, Ab', nb', cp', most', HG2.out, HS2.out, HX2.out, ?_⟩
      rw [HG'.out, beq_iff_eq.1 q0b]
      exact HB2.out
    · have q0b : (rd fx (x.length : Int) == 0) = false := beq_eq_false_iff_ne.mpr q0
      have q0c : (rd fx (x.length : Int) != 0) = true := by simpa [bne] using q0
      have Q0 := Aside0.mk q0
      clear q0
      go_wp2_with (go_at_call 44; (with_reducible refine HOP.mono ?_); rintro e w1 ⟨rfl, hb1⟩; have HB1 := Aside0.mk hb1; have hc7 : w1.cell? ⟨g, 7, none⟩ = some (.slice (some ⟨gx, 0, none⟩) v.length v.length) := (blk_cell (blk_below HBB.out hb1) 7).trans rfl; have hc2 : w1.cell? ⟨g, 2, none⟩ = some (.slice (some adf) fx.length c2) := (blk_cell (blk_below HBB.out hb1) 2).trans rfl; replace hxf := (hb1.cell (World.block_lt_of_cell? w _ hxf)).trans hxf; have hcx : w1.cell? ⟨gx, x.length, none⟩ = some (.int .i64 0) := (blk_cell (blk_below HX.out hb1) x.length).trans (bitsUp_cell n x); have hzx := blk_frozen (blk_below HX.out hb1) x.length; clear hb1)
      have hgn : g ≠ gs ∧ gx ≠ g ∧ gx ≠ gs := HNE.out
      have hk1 := (But.of_below (S := Three g gs gx) HB1.out).set (p := ⟨gx, x.length, none⟩) (.inr (.inr rfl)) (.int .i64 1)
      have hk1' := (But.refl (Three g gs gx) w1).set (p := ⟨gx, x.length, none⟩) (.inr (.inr rfl)) (.int .i64 1)
      have hg1 : (w1.setCell ⟨gx, x.length, none⟩ (.int .i64 1)).heap[g]? = _ := blk_far (blk_below HBB.out HB1.out) (p := ⟨gx, x.length, none⟩) (fun e => hgn.2.1 e.symm) (.int .i64 1)
      have hs1 : (w1.setCell ⟨gx, x.length, none⟩ (.int .i64 1)).heap[gs]? = _ := blk_far (blk_below HS.out HB1.out) (p := ⟨gx, x.length, none⟩) (fun e => hgn.2.2 e.symm) (.int .i64 1)
      have hx1 : (w1.setCell ⟨gx, x.length, none⟩ (.int .i64 1)).heap[gx]? = _ := blk_put (blk_below HX.out HB1.out) x.length (.int .i64 1) (bitsUp_one n x)
      have hB1 := HBO.out.but hk1
      have hF1 := HF.out.but hk1
      have hxf1 : (w1.setCell ⟨gx, x.length, none⟩ (.int .i64 1)).cell? (adf.add x.length) = some (.int .i64 (rd fx (x.length : Int))) := by
        obtain ⟨ad', e, h⟩ := Kd.at_int (Kd.F_now hF1.F) (x.length : Int) (of_eq_true z0) (of_eq_true z1)
        cases e
        rw [Int.toNat_natCast] at h
        exact h
      clear hc7 hc2 hxf hcx hzx hgn hk1' hxf1 HOP
      have HK1 := Aside0.mk hk1
      have HG1 := Aside0.mk hg1
      have HS1 := Aside0.mk hs1
      have HX1 := Aside0.mk hx1
      have HBO1 := Aside0.mk hB1
      have HF1 := Aside0.mk hF1
      clear hk1 hg1 hs1 hx1 hB1 hF1
      generalize w1.setCell ⟨gx, x.length, none⟩ (.int .i64 1) = wa at HK1 HG1 HS1 HX1 HBO1 HF1 ⊢
      have hset := set_call g gs gx A0 A1 (some adf) Al Ah Ar Ab c0 c1 c2 cl ch cr nb cp v rs fx x (x ++ [1]) _ _ _ most 1 x.length _ wa HP.out HLX.out HNE.out HF1.out (val_up HP.out HXB.out HLX.out) (sums_up HP.out HXB.out HLX.out) HG1.out HS1.out HX1.out
      (with_reducible refine hset.mono ?_)
      rintro e wb ⟨rfl, hk, hg, hs, hx⟩
      have HK2 := Aside0.mk (HK1.out.trans hk)
      have HG2 := Aside0.mk hg
      have HS2 := Aside0.mk hs
      have HX2 := Aside0.mk hx
      have HBO2 := Aside0.mk (HBO1.out.but hk)
      have HF2 := Aside0.mk (HF1.out.but hk)
      clear hk hg hs hx hset
      go_wp2_with (go_at_call 39; fail)
      have h39 := one_call g gs gx A0 A1 (some adf) Al Ah Ar Ab c0 c1 c2 cl ch cr nb cp v rs fx x base n most b wb IH.out HP.out.vars HN.out HXB.out (Nat.le_trans HBASE.out HK2.out.size) HF2.out HG2.out HS2.out HX2.out HBO2.out
      (with_reducible refine h39.mono ?_)
      rintro e wc ⟨rfl, hk, Ab1, nb1, cp1, most1, hg, hs, hx, hB⟩
      have HK3 := Aside0.mk (HK2.out.trans hk)
      have HG3 := Aside0.mk hg
      have HS3 := Aside0.mk hs
      have HX3 := Aside0.mk hx
      have HBO3 := Aside0.mk hB
      have HF3 := Aside0.mk (HF2.out.but hk)
      clear hk hg hs hx hB h39
      go_wp2_with (go_at_call 45; fail)
      have hset := set_call g gs gx A0 A1 (some adf) Al Ah Ar Ab1 c0 c1 c2 cl ch cr nb1 cp1 v rs fx (x ++ [1]) x _ _ _ most1 (-1) x.length _ wc HP.out HLX.out HNE.out HF3.out (val_down HP.out HXB.out HLX.out) (sums_down HP.out HXB.out HLX.out) HG3.out HS3.out HX3.out
      (with_reducible refine hset.mono ?_)
      rintro e wd ⟨rfl, hk, hg, hs, hx⟩
      have HK4 := Aside0.mk (HK3.out.trans hk)
      have HG4 := Aside0.mk hg
      have HS4 := Aside0.mk hs
      have HX4 := Aside0.mk hx
      have HBO4 := Aside0.mk (HBO3.out.but hk)
      have HF4 := Aside0.mk (HF3.out.but hk)
      have hc7 : wd.cell? ⟨g, 7, none⟩ = some (.slice (some ⟨gx, 0, none⟩) v.length v.length) := (blk_cell hg 7).trans rfl
      have hcx : wd.cell? ⟨gx, x.length, none⟩ = some (.int .i64 1) := (blk_cell hx x.length).trans (bitsUp_cell1 n x)
      have hzx := blk_frozen hx x.length
      have hg5 : (wd.setCell ⟨gx, x.length, none⟩ (.int .i64 0)).heap[g]? = _ := blk_far hg (p := ⟨gx, x.length, none⟩) (fun e => HNE.out.2.1 e.symm) (.int .i64 0)
      have hs5 : (wd.setCell ⟨gx, x.length, none⟩ (.int .i64 0)).heap[gs]? = _ := blk_far hs (p := ⟨gx, x.length, none⟩) (fun e => HNE.out.2.2 e.symm) (.int .i64 0)
      have hx5 : (wd.setCell ⟨gx, x.length, none⟩ (.int .i64 0)).heap[gx]? = _ := blk_put hx x.length (.int .i64 0) (bitsUp_back n x)
      have hk5 := (But.refl (Three g gs gx) wd).set (p := ⟨gx, x.length, none⟩) (.inr (.inr rfl)) (.int .i64 0)
      have HK5 := Aside0.mk (HK4.out.trans hk5)
      have HG5 := Aside0.mk hg5
      have HS5 := Aside0.mk hs5
      have HX5 := Aside0.mk hx5
      have HBO5 := Aside0.mk (HBO4.out.but hk5)
      have HF5 := Aside0.mk (HF4.out.but hk5)
      have hc2 : (wd.setCell ⟨gx, x.length, none⟩ (.int .i64 0)).cell? ⟨g, 2, none⟩ = some (.slice (some adf) fx.length c2) := (blk_cell hg5 2).trans rfl
      have hxf : (wd.setCell ⟨gx, x.length, none⟩ (.int .i64 0)).cell? (adf.add x.length) = some (.int .i64 (rd fx (x.length : Int))) := by
        obtain ⟨ad', e, h⟩ := Kd.at_int (Kd.F_now HF5.out.F) (x.length : Int) (of_eq_true z0) (of_eq_true z1)
        cases e
        rw [Int.toNat_natCast] at h
        exact h
      clear hk hg hs hx hset hg5 hs5 hx5 hk5
      by_cases q1 : rd fx (x.length : Int) = 1
      · have q1b : (rd fx (x.length : Int) == 1) = true := beq_iff_eq.mpr q1
        have q1c : (rd fx (x.length : Int) != 1) = false := by simpa [bne] using q1
        have Q1 := Aside0.mk q1
        clear q1
        go_wp2
        go_end0
        have e : goS (hopP v rs fx) (dotS v) fx (n + 1) x b = goS (hopP v rs fx) (dotS v) fx n (x ++ [1]) b := by rw [HG'.out]; simp [Q1.out]
        refine ⟨rfl, HK5.out, Ab1, nb1, cp1, most1, HG5.out, HS5.out, HX5.out, ?_⟩
        rw [e]
        exact HBO5.out
      · have q1b : (rd fx (x.length : Int) == 1) = false := beq_eq_false_iff_ne.mpr q1
        have q1c : (rd fx (x.length : Int) != 1) = true := by simpa [bne] using q1
        have Q1 := Aside0.mk q1
        clear q1
        go_wp2_with (go_at_call 39; fail)
        have h39 := zero_call g gs gx A0 A1 (some adf) Al Ah Ar Ab1 c0 c1 c2 cl ch cr nb1 cp1 v rs fx x HP.out base n most1 _ _ IH.out HN.out HXB.out (Nat.le_trans HBASE.out HK5.out.size) HF5.out HG5.out HS5.out HX5.out HBO5.out
        (with_reducible refine h39.mono ?_)
        rintro e w2 ⟨rfl, hk2, Ab', nb', cp', most', hg2, hs2, hx2, hB2⟩
        have HK6 := Aside0.mk hk2
        have HG6 := Aside0.mk hg2
        have HS6 := Aside0.mk hs2
        have HX6 := Aside0.mk hx2
        have HBO6 := Aside0.mk hB2
        clear hk2 hg2 hs2 hx2 hB2 h39
        go_wp2
        go_end0
        have e : goS (hopP v rs fx) (dotS v) fx (n + 1) x b = goS (hopP v rs fx) (dotS v) fx n (x ++ [0]) (goS (hopP v rs fx) (dotS v) fx n (x ++ [1]) b) := by rw [HG'.out]; simp [Q0.out, Q1.out]
        refine ⟨rfl, HK5.out.trans HK6.out, Ab', nb', cp', most', HG6.out, HS6.out, HX6.out, ?_⟩
        rw [e]
        exact HBO6.out
end Go.Proofs.Ythicnegcpafkkaa.Search
