/- newSearch: the search of a valid program, with its tables. -/
import Derived.Test.YthicnegcpafkkaaAllx4
import Derived.Test.YthicnegcpafkkaaFrom
set_option linter.unusedVariables false
set_option linter.unusedSimpArgs false
namespace Go.Proofs.Ythicnegcpafkkaa.Search
open Go.RowKit Go.Proofs.YthicnegcpafkkaaW.PrintWords Go.Proofs.YthicnegcpafkkaaW.PrintLast Go.Proofs.YthicnegcpafkkaaW.PrintMore Go.Proofs.Ythicnegcpafkkaa.All Go.Proofs.Ythicnegcpafkkaa.Spec
theorem made_ints (m : Nat) : madeCells #[.int .i64 0] m = ints (List.replicate m 0) := by
  apply Array.ext
  · simp [madeCells, ints]
  · intro i h1 h2
    simp [madeCells, ints, Nat.mod_one]
theorem five (w : World) (o0 o1 o2 o3 o4 : Obj) : (((((w.alloc o0).alloc o1).alloc o2).alloc o3).alloc o4).drew.heap[w.heap.size]? = some o0 ∧ (((((w.alloc o0).alloc o1).alloc o2).alloc o3).alloc o4).drew.heap[w.heap.size + 1]? = some o1 ∧
    (((((w.alloc o0).alloc o1).alloc o2).alloc o3).alloc o4).drew.heap[w.heap.size + 1 + 1]? = some o2 ∧ (((((w.alloc o0).alloc o1).alloc o2).alloc o3).alloc o4).drew.heap[w.heap.size + 1 + 1 + 1]? = some o3 ∧
    (((((w.alloc o0).alloc o1).alloc o2).alloc o3).alloc o4).drew.heap[w.heap.size + 1 + 1 + 1 + 1]? = some o4 ∧ Below w.heap.size w (((((w.alloc o0).alloc o1).alloc o2).alloc o3).alloc o4).drew := by
  have sz : ∀ (w : World) (o : Obj), (w.alloc o).heap.size = w.heap.size + 1 := fun w o => Array.size_push ..
  have s1 := sz w o0
  have s2 := sz (w.alloc o0) o1
  have s3 := sz ((w.alloc o0).alloc o1) o2
  have s4 := sz (((w.alloc o0).alloc o1).alloc o2) o3
  have f1 := blk_new (w.alloc o0) o1
  have f2 := blk_new ((w.alloc o0).alloc o1) o2
  have f3 := blk_new (((w.alloc o0).alloc o1).alloc o2) o3
  have f4 := blk_new ((((w.alloc o0).alloc o1).alloc o2).alloc o3) o4
  rw [s4, s3, s2, s1] at f4
  rw [s3, s2, s1] at f3
  rw [s2, s1] at f2
  rw [s1] at f1
  exact ⟨blk_alloc (blk_alloc (blk_alloc (blk_alloc (blk_new w o0) _) _) _) _, blk_alloc (blk_alloc (blk_alloc f1 _) _) _, blk_alloc (blk_alloc f2 _) _, blk_alloc f3 _, f4, below_drew (below_alloc (below_alloc (below_alloc (below_alloc (below_alloc (Below.refl _ _) _) _) _) _) _)⟩
theorem below_both {B : Nat} {w w1 w2 : World} (h : Below B w w1) (k : Below B w1 w2) : Below B w w2 :=
  ⟨k.os.trans h.os, k.tape.trans h.tape, k.output.trans h.output, Nat.le_trans h.size k.size, fun i hi => (k.block i hi).trans (h.block i hi)⟩
theorem two (w : World) (o0 o1 : Obj) : ((w.alloc o0).alloc o1).drew.heap[w.heap.size]? = some o0 ∧ ((w.alloc o0).alloc o1).drew.heap[w.heap.size + 1]? = some o1 ∧ Below w.heap.size w ((w.alloc o0).alloc o1).drew := by
  have s1 : (w.alloc o0).heap.size = w.heap.size + 1 := Array.size_push ..
  have f1 := blk_new (w.alloc o0) o1
  rw [s1] at f1
  exact ⟨blk_alloc (blk_new w o0) _, f1, below_drew (below_alloc (below_alloc (Below.refl _ _) _) _)⟩
/-- The blocks of a new search: itself, the sums, the bits, the rest. -/
structure Fresh (B : Nat) (A0 A1 A2 : Option Addr) (c0 c1 c2 : Nat) (n m f : Nat) (g gs gx gr : Nat) (w : World) : Prop where
  bg : w.heap[g]? = some (.cells #[.slice A0 n c0, .slice A1 m c1, .slice A2 f c2, .slice none 0 0, .slice none 0 0, .slice (some ⟨gr, 0, none⟩) (n + 1) (n + 1), .slice (some ⟨gs, 0, none⟩) m m, .slice (some ⟨gx, 0, none⟩) n n, .int .i64 0, .slice none 0 0, .int .i64 0] 58 (0, 0))
  bs : w.heap[gs]? = some (.cells (ints (List.replicate m 0)) 3 (0, 0))
  bx : w.heap[gx]? = some (.cells (ints (List.replicate n 0)) 3 (0, 0))
  br : w.heap[gr]? = some (.cells (ints (List.replicate (n + 1) 0)) 3 (0, 0))
  bp : w.heap[B]? = some (.cells #[.slice A0 n c0, .slice A1 m c1, .slice A2 f c2] 25 (0, 0))
  lt : B < g ∧ B < gs ∧ B < gx ∧ B < gr
  ne : g ≠ gs ∧ gx ≠ g ∧ gx ≠ gs ∧ gr ≠ g ∧ gr ≠ gs ∧ gr ≠ gx
abbrev slot (n b : Nat) : Value := .slice (some ⟨b, 0, none⟩) (n + 1) (n + 1)
abbrev slots (n : Nat) : Kd Nat := Kd.scalar (slot n) (fun _ => rfl)
/-- The first rounds have been made. -/
structure Mid (w : World) (B0 : Nat) (A0 A1 A2 : Option Addr) (c0 c1 c2 : Nat) (n m : Nat) (rs : List S45) (fx : List Int) (g gs gx gr : Nat) (i : Nat) (loV hiV : Value) (bl bh : List Nat) (w' : World) : Prop where
  bel : Below w.heap.size w w'
  bg : w'.heap[g]? = some (.cells #[.slice A0 n c0, .slice A1 m c1, .slice A2 fx.length c2, loV, hiV, .slice (some ⟨gr, 0, none⟩) (n + 1) (n + 1), .slice (some ⟨gs, 0, none⟩) m m, .slice (some ⟨gx, 0, none⟩) n n, .int .i64 0, .slice none 0 0, .int .i64 0] 58 (0, 0))
  bs : w'.heap[gs]? = some (.cells (ints (List.replicate m 0)) 3 (0, 0))
  bx : w'.heap[gx]? = some (.cells (ints (List.replicate n 0)) 3 (0, 0))
  br : w'.heap[gr]? = some (.cells (ints (List.replicate (n + 1) 0)) 3 (0, 0))
  bp : w'.heap[w.heap.size]? = some (.cells #[.slice A0 n c0, .slice A1 m c1, .slice A2 fx.length c2] 25 (0, 0))
  lo : (slots n).R 22 w' B0 (fun _ => True) loV bl
  hi : (slots n).R 22 w' B0 (fun _ => True) hiV bh
  ap : ∀ k, loV.ownBlock = some k → hiV.ownBlock ≠ some k
  nl : bl.length = i
  nh : bh.length = i
  il : ∀ j < i, ∃ b, bl[j]? = some b ∧ B0 ≤ b ∧ w'.heap[b]? = some (.cells (ints (tabLo (rd_T45 rs (j : Int)).f0 fx)) 3 (0, 0))
  ih : ∀ j < i, ∃ b, bh[j]? = some b ∧ B0 ≤ b ∧ w'.heap[b]? = some (.cells (ints (tabHi (rd_T45 rs (j : Int)).f0 fx)) 3 (0, 0))
  sz : B0 ≤ w'.heap.size
  lt : w.heap.size < B0 ∧ g < B0 ∧ gs < B0 ∧ gx < B0 ∧ gr < B0 ∧ w.heap.size < g ∧ w.heap.size < gs ∧ w.heap.size < gx ∧ w.heap.size < gr
  ne : g ≠ gs ∧ gx ≠ g ∧ gx ≠ gs ∧ gr ≠ g ∧ gr ≠ gs ∧ gr ≠ gx
theorem Mid.start {w w' : World} {A0 A1 A2 : Option Addr} {c0 c1 c2 n m : Nat} {rs : List S45} {fx : List Int} {g gs gx gr : Nat} (h : Fresh w.heap.size A0 A1 A2 c0 c1 c2 n m fx.length g gs gx gr w') (hb : Below w.heap.size w w') :
    Mid w w'.heap.size A0 A1 A2 c0 c1 c2 n m rs fx g gs gx gr 0 (.slice none 0 0) (.slice none 0 0) [] [] w' :=
  ⟨hb, h.bg, h.bs, h.bx, h.br, h.bp, Kd.R_nil _ _ _ _ _, Kd.R_nil _ _ _ _ _, (fun k hk => by simp [Value.ownBlock] at hk), rfl, rfl, fun j hj => absurd hj (Nat.not_lt_zero j), fun j hj => absurd hj (Nat.not_lt_zero j), Nat.le_refl _,
    ⟨blk_lt h.bp, blk_lt h.bg, blk_lt h.bs, blk_lt h.bx, blk_lt h.br, h.lt.1, h.lt.2.1, h.lt.2.2.1, h.lt.2.2.2⟩, h.ne⟩
/-- What is new, or is not its own, does not matter. -/
theorem Mid.but {w w' w2 : World} {B0 : Nat} {A0 A1 A2 : Option Addr} {c0 c1 c2 n m : Nat} {rs : List S45} {fx : List Int} {g gs gx gr i : Nat} {loV hiV : Value} {bl bh : List Nat} (h : Mid w B0 A0 A1 A2 c0 c1 c2 n m rs fx g gs gx gr i loV hiV bl bh w') (k : Below w'.heap.size w' w2) :
    Mid w B0 A0 A1 A2 c0 c1 c2 n m rs fx g gs gx gr i loV hiV bl bh w2 :=
  ⟨below_then h.bel h.bel.size k, blk_below h.bg k, blk_below h.bs k, blk_below h.bx k, blk_below h.br k, blk_below h.bp k, Kd.R_below h.lo k, Kd.R_below h.hi k, h.ap, h.nl, h.nh,
    fun j hj => (h.il j hj).imp fun b q => ⟨q.1, q.2.1, blk_below q.2.2 k⟩, fun j hj => (h.ih j hj).imp fun b q => ⟨q.1, q.2.1, blk_below q.2.2 k⟩, Nat.le_trans h.sz k.size, h.lt, h.ne⟩
def fill (t : List Int) (i : Nat) : List Int := t.take i ++ List.replicate (t.length - i) 0
theorem fill_zero (t : List Int) : fill t 0 = List.replicate t.length 0 := by simp [fill]
theorem fill_all (t : List Int) : fill t t.length = t := by simp [fill]
theorem fill_length (t : List Int) {i : Nat} (h : i ≤ t.length) : (fill t i).length = t.length := by simp [fill]; omega
theorem fill_step (t : List Int) {i : Nat} (h : i < t.length) : (ints (fill t i)).setIfInBounds i (.int .i64 (rd t (i : Int))) = ints (fill t (i + 1)) := by
  have e1 : (t.take i).length = i := by simp; omega
  have e2 : t.length - i = t.length - (i + 1) + 1 := by omega
  rw [rd_nat, List.getD_eq_getElem?_getD, List.getElem?_eq_getElem h, Option.getD_some]
  simp only [ints, fill]
  rw [List.take_succ_eq_append_getElem h, e2, List.replicate_succ]
  simp [List.set_append, Nat.min_eq_left (Nat.le_of_lt h)]
  rw [List.take_succ_eq_append_getElem (by simpa using h)]
  simp
theorem fill_cell (t : List Int) {i : Nat} (h : i < t.length) : (ints (fill t i))[i]? = some (.int .i64 0) := by
  have e1 : (t.take i).length = i := by simp; omega
  have e2 : t.length - i = t.length - (i + 1) + 1 := by omega
  simp only [ints, fill]
  rw [e2, List.replicate_succ]
  simp [List.getElem?_append, Nat.min_eq_left (Nat.le_of_lt h)]
/-- Both rows have been appended to, and stored. -/
theorem Mid.push {w wr w2 : World} {B0 : Nat} {A0 A1 A2 : Option Addr} {c0 c1 c2 n m : Nat} {rs : List S45} {fx : List Int} {g gs gx gr i : Nat} {loV hiV v1 v2 : Value} {bl bh : List Nat} {b1 b2 : Nat} (h : Mid w B0 A0 A1 A2 c0 c1 c2 n m rs fx g gs gx gr i loV hiV bl bh wr)
    (hk : ∀ k < wr.heap.size, some k ≠ loV.ownBlock → some k ≠ hiV.ownBlock → w2.heap[k]? = wr.heap[k]?) (hbel : Below B0 wr w2)
    (ho1 : (slots n).R 22 w2 B0 (fun _ => True) v1 (bl ++ [b1])) (ho2 : (slots n).R 22 w2 B0 (fun _ => True) v2 (bh ++ [b2])) (hap : ∀ k, v1.ownBlock = some k → v2.ownBlock ≠ some k) (hB1 : B0 ≤ b1) (hB2 : B0 ≤ b2)
    (hb1 : wr.heap[b1]? = some (.cells (ints (tabLo (rd_T45 rs (i : Int)).f0 fx)) 3 (0, 0))) (hb2 : wr.heap[b2]? = some (.cells (ints (tabHi (rd_T45 rs (i : Int)).f0 fx)) 3 (0, 0))) :
    Mid w B0 A0 A1 A2 c0 c1 c2 n m rs fx g gs gx gr (i + 1) v1 v2 (bl ++ [b1]) (bh ++ [b2]) ((w2.setCell ⟨g, 3, none⟩ v1).setCell ⟨g, 4, none⟩ v2) := by
  have keep : ∀ {k : Nat} {o : Obj}, k < B0 → wr.heap[k]? = some o → w2.heap[k]? = some o := fun hlt ho => (hbel.block _ hlt).trans ho
  have inner : ∀ {b : Nat} {cs : Array Value}, wr.heap[b]? = some (.cells cs 3 (0, 0)) → w2.heap[b]? = some (.cells cs 3 (0, 0)) := by
    intro b cs hb
    refine (hk b (blk_lt hb) (fun e => ?_) (fun e => ?_)).trans hb
    · obtain ⟨cells, hc⟩ := Kd.R_typed h.lo b e.symm
      rw [hc] at hb; cases hb
    · obtain ⟨cells, hc⟩ := Kd.R_typed h.hi b e.symm
      rw [hc] at hb; cases hb
  have far : ∀ {k : Nat} {cs : Array Value} {t : TypeId}, k ≠ g → w2.heap[k]? = some (.cells cs t (0, 0)) → ((w2.setCell ⟨g, 3, none⟩ v1).setCell ⟨g, 4, none⟩ v2).heap[k]? = some (.cells cs t (0, 0)) :=
    fun hne hb => blk_far (blk_far hb (p := ⟨g, 3, none⟩) hne v1) (p := ⟨g, 4, none⟩) hne v2
  have hg := keep h.lt.2.1 h.bg
  have n1 : ∀ {b : Nat} {cs : Array Value}, w2.heap[b]? = some (.cells cs 3 (0, 0)) → b ≠ g := fun hb e => by rw [e, hg] at hb; cases hb
  have rows : ∀ {va : Value} {xs : List Nat}, (slots n).R 22 w2 B0 (fun _ => True) va xs → (slots n).R 22 ((w2.setCell ⟨g, 3, none⟩ v1).setCell ⟨g, 4, none⟩ v2) B0 (fun _ => True) va xs := by
    intro va xs hr
    have h1 : (slots n).R 22 w2 B0 (fun k => k ≠ g) va xs := ⟨fun k hk e => by have h2 := Kd.R_base hr k hk; have h3 := h.lt.2.1; omega, hr.2⟩
    exact Kd.R_mono (Kd.R_far (Kd.R_far h1 (p := ⟨g, 3, none⟩) (fun _ q => q) v1) (p := ⟨g, 4, none⟩) (fun _ q => q) v2) (fun _ _ => trivial)
  refine ⟨?_, blk_put (blk_put hg 3 v1 rfl) 4 v2 rfl, far h.ne.1.symm (keep h.lt.2.2.1 h.bs), far h.ne.2.1 (keep h.lt.2.2.2.1 h.bx), far h.ne.2.2.2.1 (keep h.lt.2.2.2.2.1 h.br), far (Nat.ne_of_lt h.lt.2.2.2.2.2.1) (keep h.lt.1 h.bp), rows ho1, rows ho2, hap, by simp [h.nl], by simp [h.nh], ?_, ?_, ?_, h.lt, h.ne⟩
  · have h1 : Below w.heap.size wr w2 := ⟨hbel.os, hbel.tape, hbel.output, hbel.size, fun k hk => hbel.block k (by have := h.lt.1; omega)⟩
    exact below_set (below_set (below_both h.bel h1) (Nat.le_of_lt h.lt.2.2.2.2.2.1)) (Nat.le_of_lt h.lt.2.2.2.2.2.1)
  · intro j hj
    by_cases e : j = i
    · subst e
      exact ⟨b1, by rw [List.getElem?_append_right (by rw [h.nl]; exact Nat.le_refl _), h.nl]; simp, hB1, far (n1 (inner hb1)) (inner hb1)⟩
    · obtain ⟨b, q1, q0, q2⟩ := h.il j (by omega)
      exact ⟨b, by rw [List.getElem?_append_left (by rw [h.nl]; omega)]; exact q1, q0, far (n1 (inner q2)) (inner q2)⟩
  · intro j hj
    by_cases e : j = i
    · subst e
      exact ⟨b2, by rw [List.getElem?_append_right (by rw [h.nh]; exact Nat.le_refl _), h.nh]; simp, hB2, far (n1 (inner hb2)) (inner hb2)⟩
    · obtain ⟨b, q1, q0, q2⟩ := h.ih j (by omega)
      exact ⟨b, by rw [List.getElem?_append_left (by rw [h.nh]; omega)]; exact q1, q0, far (n1 (inner q2)) (inner q2)⟩
  · simp [World.setCell]
    exact Nat.le_trans h.sz hbel.size
theorem info22 : (Try.prog.info? 22).map (fun i => (i.zero, i.size, i.bytes)) = some (some (.slice none 0 0), 1, 24) := by kernel_rfl
theorem next_new (w : World) (o0 o1 : Obj) : ((w.alloc o0).alloc o1).heap[w.heap.size + 1]? = some o1 := by
  have s1 : (w.alloc o0).heap.size = w.heap.size + 1 := Array.size_push ..
  have f1 := blk_new (w.alloc o0) o1
  rw [s1] at f1
  exact f1
theorem below_low {B C : Nat} {w W : World} (h : Below C w W) (hB : B ≤ C) : Below B w W := ⟨h.os, h.tape, h.output, h.size, fun k hk => h.block k (Nat.lt_of_lt_of_le hk hB)⟩
/-- What the append to the first row of rows leaves. -/
structure Grown (B0 n : Nat) (wr w1 : World) (va v1 : Value) (xs : List Nat) : Prop where
  own : (slots n).R 22 w1 B0 (fun _ => True) v1 xs
  bel : Below B0 wr w1
  old : ∀ k < wr.heap.size, some k ≠ va.ownBlock → w1.heap[k]? = wr.heap[k]?
  at_ : v1.ownBlock = va.ownBlock ∨ ∃ b, v1.ownBlock = some b ∧ wr.heap.size ≤ b
  sz : wr.heap.size ≤ w1.heap.size
theorem Grown.mk' {B0 n : Nat} {wr W w1 : World} {va v1 : Value} {xs : List Nat} (h : Below wr.heap.size wr W) (ho : (slots n).R 22 w1 B0 (fun _ => True) v1 xs) (hb : Below B0 wr w1) (hg : W.grownBy w1 va.ownBlock)
    (ha : v1.ownBlock = va.ownBlock ∨ ∃ b, v1.ownBlock = some b ∧ W.heap.size ≤ b) : Grown B0 n wr w1 va v1 xs :=
  ⟨ho, hb, fun k hk hne => (hg.block k (Nat.lt_of_lt_of_le hk h.size) hne).trans (h.block k hk), ha.imp id (fun ⟨b, q1, q2⟩ => ⟨b, q1, Nat.le_trans h.size q2⟩), Nat.le_trans h.size hg.size⟩
/-- A box laid ahead of the append stays. -/
theorem grown_box {wr W w1 : World} {va : Value} {B0 n : Nat} {xs : List Nat} (hr : (slots n).R 22 wr B0 (fun _ => True) va xs) (hg : W.grownBy w1 va.ownBlock) {k : Nat} {o : Obj} (h : W.heap[k]? = some o) (hk : wr.heap.size ≤ k) : w1.heap[k]? = some o :=
  (hg.block k (blk_lt h) (fun e => by have := Kd.R_lt hr k e.symm; omega)).trans h
/-- The second row of rows, behind the append to the first. -/
theorem Grown.other {B0 n : Nat} {wr w1 : World} {va v1 vb : Value} {xs ys : List Nat} (h : Grown B0 n wr w1 va v1 xs) (hr : (slots n).R 22 wr B0 (fun _ => True) vb ys) (hap : ∀ k, va.ownBlock = some k → vb.ownBlock ≠ some k) : (slots n).R 22 w1 B0 (fun _ => True) vb ys := by
  have h1 : (slots n).R 22 wr B0 (fun k => some k ≠ va.ownBlock) vb ys := ⟨fun k hk e => hap k e.symm hk, hr.2⟩
  exact Kd.R_mono (Kd.R_step h1 (fun k hk hlt => h.old k hlt hk)) (fun _ _ => trivial)
/-- Both appends. -/
theorem Grown.both {w wr W2 w1 w2 : World} {B0 : Nat} {A0 A1 A2 : Option Addr} {c0 c1 c2 n m : Nat} {rs : List S45} {fx : List Int} {g gs gx gr i : Nat} {loV hiV v1 v2 : Value} {bl bh : List Nat} {b1 b2 : Nat} (hm : Mid w B0 A0 A1 A2 c0 c1 c2 n m rs fx g gs gx gr i loV hiV bl bh wr)
    (h : Grown B0 n wr w1 loV v1 (bl ++ [b1])) (up : Below w1.heap.size w1 W2) (ho2 : (slots n).R 22 w2 B0 (fun _ => True) v2 (bh ++ [b2])) (hb2 : Below B0 wr w2) (hg2 : W2.grownBy w2 hiV.ownBlock) (ha2 : v2.ownBlock = hiV.ownBlock ∨ ∃ b, v2.ownBlock = some b ∧ W2.heap.size ≤ b) (hB1 : B0 ≤ b1) (hB2 : B0 ≤ b2)
    (hb1 : wr.heap[b1]? = some (.cells (ints (tabLo (rd_T45 rs (i : Int)).f0 fx)) 3 (0, 0))) (hbb : wr.heap[b2]? = some (.cells (ints (tabHi (rd_T45 rs (i : Int)).f0 fx)) 3 (0, 0))) :
    Mid w B0 A0 A1 A2 c0 c1 c2 n m rs fx g gs gx gr (i + 1) v1 v2 (bl ++ [b1]) (bh ++ [b2]) ((w2.setCell ⟨g, 3, none⟩ v1).setCell ⟨g, 4, none⟩ v2) := by
  have hap1 : ∀ k, v1.ownBlock = some k → hiV.ownBlock ≠ some k := by
    intro k hk hh
    rcases h.at_ with e | ⟨b, e, hle⟩
    · exact hm.ap k (e ▸ hk) hh
    · have h1 := Kd.R_lt hm.hi k hh
      rw [e] at hk; cases hk
      omega
  have hlo : (slots n).R 22 w2 B0 (fun _ => True) v1 (bl ++ [b1]) := by
    have h1 : (slots n).R 22 w1 B0 (fun k => some k ≠ hiV.ownBlock) v1 (bl ++ [b1]) := ⟨fun k hk e => hap1 k hk e.symm, h.own.2⟩
    exact Kd.R_mono (Kd.R_step (Kd.R_below h1 up) (fun k hk hlt => hg2.block k hlt hk)) (fun _ _ => trivial)
  refine Mid.push hm (fun k hk h1 h2 => ?_) hb2 hlo ho2 ?_ hB1 hB2 hb1 hbb
  · have hlt : k < w1.heap.size := Nat.lt_of_lt_of_le hk h.sz
    exact (hg2.block k (Nat.lt_of_lt_of_le hlt up.size) h2).trans ((up.block k hlt).trans (h.old k hk h1))
  · intro k hk hh
    rcases ha2 with e | ⟨b, e, hle⟩
    · exact hap1 k hk (e ▸ hh)
    · have h1 := Kd.R_lt h.own k hk
      have h2 := up.size
      rw [e] at hh; cases hh
      omega
theorem box_reads {W : World} {k n b : Nat} (h : W.heap[k]? = some (.cells #[slot n b] 22 (0, 0))) : ReadsRow (fun (x : Nat) (cs : List Value) => cs = [slot n x]) (slots n).sz W (some ⟨k, 0, none⟩) 1 [b] :=
  ⟨rfl, by decide, fun _ => ⟨⟨k, 0, none⟩, rfl, fun j p hp => ⟨[slot n p], rfl, rfl, fun i u hu => by
    match j, hp, i, hu with
    | 0, hp, 0, hu =>
      cases hp; cases hu
      exact (blk_cell h 0).trans rfl⟩⟩⟩
/-- A row of rows of one's own, as it is read. -/
theorem rows_C {n m : Nat} {W : World} {A : Option Addr} {bl : List Nat} {los : List (List Int)} (h : (slots n).C W A bl.length bl) (hn : bl.length = m) (hl : los.length = m) (hn2 : n + 1 ≤ 9223372036854775807)
    (hi : ∀ j (hj : j < los.length), los[j].length = n + 1 ∧ ∃ b, bl[j]? = some b ∧ W.heap[b]? = some (.cells (ints los[j]) 3 (0, 0))) : (Kd.slice 3 (Kd.int .i64)).C W A los.length los := by
  obtain ⟨h1, h2, h3⟩ := h
  have e : los.length = bl.length := by omega
  refine ⟨rfl, by omega, fun hp => ?_⟩
  obtain ⟨ad, hA, hc⟩ := h3 (by omega)
  refine ⟨ad, hA, fun j p hj => ?_⟩
  obtain ⟨hlt, rfl⟩ := List.getElem?_eq_some_iff.1 hj
  obtain ⟨hlen, b, hb, hh⟩ := hi j hlt
  obtain ⟨c, q1, q2, q3⟩ := hc j b hb
  refine ⟨c, q1, ?_, q3⟩
  have q2' : c = [slot n b] := q2
  rw [q2']
  exact ⟨some ⟨b, 0, none⟩, n + 1, by rw [hlen], by rw [hlen]; exact Nat.le_refl _, C_ints hh (by omega)⟩
theorem rows_F {n m B0 : Nat} {W : World} {S : Nat → Prop} {va : Value} {bl : List Nat} {los : List (List Int)} (h : (slots n).R 22 W B0 (fun _ => True) va bl) (hn : bl.length = m) (hl : los.length = m) (hn2 : n + 1 ≤ 9223372036854775807) (hS : ∀ k, B0 ≤ k → ¬ S k)
    (hi : ∀ j (hj : j < los.length), los[j].length = n + 1 ∧ ∃ b, bl[j]? = some b ∧ B0 ≤ b ∧ W.heap[b]? = some (.cells (ints los[j]) 3 (0, 0))) : ∃ A c, va = .slice A m c ∧ Kd.F (Kd.slice 3 (Kd.int .i64)) W (fun k => ¬ S k) A los.length los := by
  obtain ⟨A, c, rfl, hc⟩ := Kd.R_reads h
  refine ⟨A, c, by rw [hn], fun W' hW => ?_⟩
  have h2 : (slots n).R 22 W B0 (fun k => ¬ S k) (.slice A bl.length c) bl := ⟨fun k hk => hS k (Kd.R_base h k hk), h.2⟩
  have h3 := Kd.R_step h2 hW
  obtain ⟨_, _, h4⟩ := Kd.R_reads' h3
  refine rows_C h4 hn hl hn2 fun j hj => ?_
  obtain ⟨q1, b, q2, q3, q4⟩ := hi j hj
  exact ⟨q1, b, q2, (hW b (hS b q3) (blk_lt q4)).trans q4⟩
/-- What newSearch leaves. -/
structure Ready (w : World) (A0 A1 A2 : Option Addr) (c0 c1 c2 : Nat) (v : List Int) (rs : List S45) (fx : List Int) (g gs gx : Nat) (Al Ah Ar : Option Addr) (cl ch cr : Nat) (w' : World) : Prop where
  bel : Below w.heap.size w w'
  b : w'.heap[g]? = some (.cells (srch gs gx A0 A1 A2 Al Ah Ar c0 c1 c2 cl ch cr v.length rs.length fx.length 0 none 0 0 0) 58 (0, 0))
  s : w'.heap[gs]? = some (.cells (ints (List.replicate rs.length 0)) 3 (0, 0))
  x : w'.heap[gx]? = some (.cells (ints (List.replicate v.length 0)) 3 (0, 0))
  ne : g ≠ gs ∧ gx ≠ g ∧ gx ≠ gs
  lt : w.heap.size ≤ g ∧ w.heap.size ≤ gs ∧ w.heap.size ≤ gx
  F : Frame (Three g gs gx) A0 A1 A2 Al Ah Ar v rs fx (rs.map fun r => tabLo r.f0 fx) (rs.map fun r => tabHi r.f0 fx) (tabHi v fx) w'
theorem Mid.ready {w w3 w' : World} {B0 : Nat} {A0 A1 A2 : Option Addr} {c0 c1 c2 : Nat} {v : List Int} {rs : List S45} {fx : List Int} {g gs gx gr : Nat} {loV hiV : Value} {bl bh : List Nat} (hP : ValidP v rs fx)
    (h : Mid w B0 A0 A1 A2 c0 c1 c2 v.length rs.length rs fx g gs gx gr rs.length loV hiV bl bh w3) (k : But (fun k => k = gr) w3 w') (hr : w'.heap[gr]? = some (.cells (ints (tabHi v fx)) 3 (0, 0)))
    (hV : Kd.C (Kd.int .i64) w A0 v.length v) (hR : Kd.C k45 w A1 rs.length rs) (hF : Kd.C (Kd.int .i64) w A2 fx.length fx) :
    ∃ Al Ah Ar cl ch cr, Ready w A0 A1 A2 c0 c1 c2 v rs fx g gs gx Al Ah Ar cl ch cr w' := by
  have hv := hP.vars
  have hlt := h.lt
  have hne := h.ne
  have hbel : Below w.heap.size w w' := below_both h.bel (k.below h.bel.size (fun j hj => by subst hj; omega))
  have hS : ∀ j, B0 ≤ j → ¬ Three g gs gx j := fun j hj hh => by rcases hh with e | e | e <;> omega
  have row : ∀ {va : Value} {xs : List Nat}, (slots v.length).R 22 w3 B0 (fun _ => True) va xs → (slots v.length).R 22 w' B0 (fun _ => True) va xs := by
    intro va xs hr
    have h1 : (slots v.length).R 22 w3 B0 (fun k => k ≠ gr) va xs := ⟨fun j hj e => by have h2 := Kd.R_base hr j hj; omega, hr.2⟩
    exact Kd.R_mono (Kd.R_step h1 (fun j hj hlt => k.block j hlt hj)) (fun _ _ => trivial)
  have old : ∀ {b : Nat} {o : Obj}, b ≠ gr → w3.heap[b]? = some o → w'.heap[b]? = some o := fun hb ho => k.blk ho hb
  obtain ⟨Al, cl, e1, hL⟩ := rows_F (S := Three g gs gx) (los := rs.map fun r => tabLo r.f0 fx) (row h.lo) h.nl (List.length_map ..) (by omega) hS (fun j hj => by
    rw [List.length_map] at hj
    obtain ⟨b, q1, q2, q3⟩ := h.il j hj
    rw [rdT_map hj] at q3
    refine ⟨by rw [List.getElem_map, tabLo_length, (hP.row (List.getElem_mem hj)).1], b, q1, q2, ?_⟩
    rw [List.getElem_map]
    exact old (by omega) q3)
  obtain ⟨Ah, ch, e2, hH⟩ := rows_F (S := Three g gs gx) (los := rs.map fun r => tabHi r.f0 fx) (row h.hi) h.nh (List.length_map ..) (by omega) hS (fun j hj => by
    rw [List.length_map] at hj
    obtain ⟨b, q1, q2, q3⟩ := h.ih j hj
    rw [rdT_map hj] at q3
    refine ⟨by rw [List.getElem_map, tabHi_length, (hP.row (List.getElem_mem hj)).1], b, q1, q2, ?_⟩
    rw [List.getElem_map]
    exact old (by omega) q3)
  have came : ∀ j, j < w.heap.size → ¬ Three g gs gx j := fun j hj hh => by rcases hh with e | e | e <;> omega
  have hb := old hne.2.2.2.1.symm h.bg
  rw [e1, e2] at hb
  refine ⟨Al, Ah, some ⟨gr, 0, none⟩, cl, ch, v.length + 1, hbel, hb, old hne.2.2.2.2.1.symm h.bs, old hne.2.2.2.2.2.symm h.bx, ⟨hne.1, hne.2.1, hne.2.2.1⟩, ⟨by omega, by omega, by omega⟩, ?_⟩
  refine ⟨Kd.F_mono (Kd.F_below (Kd.C_F (Kd.heap_int _) hV) hbel) came, Kd.F_mono (Kd.F_below (Kd.C_F k45_heap hR) hbel) came, Kd.F_mono (Kd.F_below (Kd.C_F (Kd.heap_int _) hF) hbel) came, hL, hH, ?_⟩
  intro W' hW
  have hgr : ¬ Three g gs gx gr := fun hh => by rcases hh with e | e | e <;> omega
  exact C_ints ((hW gr hgr (blk_lt hr)).trans hr) (by rw [tabHi_length]; omega)
end Go.Proofs.Ythicnegcpafkkaa.Search
set_option linter.unusedVariables false
set_option linter.unusedSimpArgs false
namespace Go.Proofs.Ythicnegcpafkkaa.Search
open Go.RowKit Go.Proofs.YthicnegcpafkkaaW.PrintWords Go.Proofs.YthicnegcpafkkaaW.PrintLast Go.Proofs.YthicnegcpafkkaaW.PrintMore Go.Proofs.Ythicnegcpafkkaa.All Go.Proofs.Ythicnegcpafkkaa.Spec
set_option maxHeartbeats 8000000 in
set_option maxRecDepth 100000 in
theorem new_walk (A0 A1 A2 : Option Addr) (c0 c1 c2 : Nat) (v : List Int) (rs : List S45) (fx : List Int) (w : World) (hP : ValidP v rs fx)
    (hV : Kd.C (Kd.int .i64) w A0 v.length v) (hR : Kd.C k45 w A1 rs.length rs) (hF : Kd.C (Kd.int .i64) w A2 fx.length fx) (hc2 : fx.length ≤ c2) (hc0 : v.length ≤ c0) :
    Calls Try.prog 38 #[.agg #[.slice A0 v.length c0, .slice A1 rs.length c1, .slice A2 fx.length c2]] w fun e w' => ∃ g gs gx Al Ah Ar cl ch cr, e = .returned (.pointer (some ⟨g, 0, none⟩)) ∧ Ready w A0 A1 A2 c0 c1 c2 v rs fx g gs gx Al Ah Ar cl ch cr w' := by
  have HP := Aside0.mk hP
  have HV := Aside0.mk hV
  have HR := Aside0.mk hR
  have HF := Aside0.mk hF
  clear hP hV hR hF
  have hv := HP.out.vars
  have hrn := HP.out.rows
  have hw1 : wrap64 ((v.length : Int) + 1) = ((v.length + 1 : Nat) : Int) := wrap_nat (by omega)
  have hm1 := print_make (P := Try.prog) 22 3 .i64 8 Try.underlying22 info3 (by decide) v.length (by omega)
  have hm2 := print_make (P := Try.prog) 22 3 .i64 8 Try.underlying22 info3 (by decide) rs.length (by omega)
  have hm3 := print_make (P := Try.prog) 22 3 .i64 8 Try.underlying22 info3 (by decide) (v.length + 1) (by omega)
  rw [← hw1] at hm3
  clear hv hrn hw1
  go_enter Try.func38, Try.ntmps38
  go_upto_region 2 with fail
  go_cut [4] (fun v4 wx => ∃ g gs gx gr : Nat, v4 = .pointer (some ⟨g, 0, none⟩) ∧ Aside0 (Below w.heap.size w wx) ∧ Aside0 (Fresh w.heap.size A0 A1 A2 c0 c1 c2 v.length rs.length fx.length g gs gx gr wx))
  case first =>
    go_region
    all_goals
      go_wp2_with fail
      go_meet
      refine ⟨_, _, _, _, rfl, ⟨(five w _ _ _ _ _).2.2.2.2.2⟩, ⟨⟨(five w _ _ _ _ _).2.2.2.2.1, ?_, ?_, ?_, (five w _ _ _ _ _).1, ?_, ?_⟩⟩⟩
      · rw [← made_ints]; first | exact (five w _ _ _ _ _).2.1 | exact (five w _ _ _ _ _).2.2.1 | exact (five w _ _ _ _ _).2.2.2.1
      · rw [← made_ints]; first | exact (five w _ _ _ _ _).2.1 | exact (five w _ _ _ _ _).2.2.1 | exact (five w _ _ _ _ _).2.2.2.1
      · rw [← made_ints]; first | exact (five w _ _ _ _ _).2.1 | exact (five w _ _ _ _ _).2.2.1 | exact (five w _ _ _ _ _).2.2.2.1
      · omega
      · omega
  case rest =>
    obtain ⟨g, gs, gx, gr, rfl, HB, HN⟩ := hcut
    have HM := Aside0.mk (Mid.start (rs := rs) HN.out HB.out)
    have HB0 := Aside0.mk (Nat.le_refl wc.heap.size)
    have hp1 : wc.cell? ⟨w.heap.size, 1, none⟩ = some (.slice A1 rs.length c1) := (blk_cell HN.out.bp 1).trans rfl
    have HC2 := Aside0.mk hc2
    have HC0 := Aside0.mk hc0
    have HM1 := Aside0.mk hm1
    have HM3 := Aside0.mk hm3
    clear HN HB hm1 hm2 hm3 hc2 hc0
    generalize wc.heap.size = B0 at HM HB0
    go_wp2
    go_loopg [29] rs.length (fun kq v29 w' => ∃ (i : Int) (loV hiV : Value) (bl bh : List Nat), v29 = .int .i64 i ∧ Aside0 (0 ≤ i ∧ (i : Int) + kq = rs.length) ∧ Aside0 (Mid w B0 A0 A1 A2 c0 c1 c2 v.length rs.length rs fx g gs gx gr i.toNat loV hiV bl bh w'))
    case atStart => exact ⟨0, _, _, _, _, rfl, ⟨by omega⟩, HM⟩
    case round =>
      obtain ⟨i, loV, hiV, bl, bh, rfl, HI, HM1⟩ := hrel
      by_cases c : i < (rs.length : Int)
      · have cb : decide (i < (rs.length : Int)) = true := decide_eq_true c
        obtain ⟨kk, rfl⟩ : ∃ kk, gk = kk + 1 := ⟨gk - 1, by have h1 := HI.out; omega⟩
        have q0 : 0 ≤ i := HI.out.1
        obtain ⟨adr, Arr, crr, e, hx0, hx1, hx2, hx3, hx4⟩ := at_T45 HR.out i q0 c
        cases e
        have up : ∀ {p : Addr} {u : Value}, w.cell? p = some u → wr.cell? p = some u := fun h => (HM1.out.bel.cell (World.block_lt_of_cell? w _ h)).trans h
        replace hx0 := up hx0
        replace hx1 := up hx1
        replace hx2 := up hx2
        have hmem : rd_T45 rs i ∈ rs := by
          have hit : i.toNat < rs.length := by omega
          rw [rd_T45, List.getD_eq_getElem?_getD, List.getElem?_eq_getElem hit]; exact List.getElem_mem hit
        have HROW := Aside0.mk (HP.out.row hmem)
        have q1 := eq_true c
        have HC := Aside0.mk c
        replace q0 := eq_true q0
        have HX3 := Aside0.mk hx3
        have HX4 := Aside0.mk (Kd.C_below hx4 HM1.out.bel)
        have hm3 := HM3.out
        clear hp1 up hmem c hx3 hx4
        have hbr : (wr.alloc (.cells #[.slice Arr (rd_T45 rs i).f0.length crr, .int .i64 (rd_T45 rs i).f1, .int .i64 (rd_T45 rs i).f2] 45 (0, 0))).heap[wr.heap.size]? = some (.cells #[.slice Arr (rd_T45 rs i).f0.length crr, .int .i64 (rd_T45 rs i).f1, .int .i64 (rd_T45 rs i).f2] 45 (0, 0)) := Array.getElem?_push_size
        have HBR := Aside0.mk hbr
        have HB3 := Aside0.mk (below_alloc (Below.refl wr.heap.size wr) (.cells #[.slice Arr (rd_T45 rs i).f0.length crr, .int .i64 (rd_T45 rs i).f1, .int .i64 (rd_T45 rs i).f2] 45 (0, 0)))
        have HLT3 := Aside0.mk (blk_lt hbr)
        have HM3' := Aside0.mk (HM1.out.but HB3.out)
        have HX5 := Aside0.mk (Kd.C_below HX4.out HB3.out)
        have HSZ := Aside0.mk (show w.heap.size < wr.heap.size from blk_lt HM1.out.bp)
        clear hbr HX4 HM1 HB3
        go_upto_region 6 with fail
        generalize wr.alloc (.cells #[.slice Arr (rd_T45 rs i).f0.length crr, .int .i64 (rd_T45 rs i).f1, .int .i64 (rd_T45 rs i).f2] 45 (0, 0)) = w3 at HBR HLT3 HM3' HX5 ⊢
        generalize wr.heap.size = k0 at HBR HLT3 HSZ ⊢
        go_cut [7, 8] (fun v7 v8 wx => ∃ b1 b2 : Nat, v7 = .slice (some ⟨b1, 0, none⟩) (v.length + 1) (v.length + 1) ∧ v8 = .slice (some ⟨b2, 0, none⟩) (v.length + 1) (v.length + 1) ∧ Aside0 (Below w3.heap.size w3 wx) ∧
          Aside0 (wx.heap[b1]? = some (.cells (ints (List.replicate (v.length + 1) 0)) 3 (0, 0))) ∧ Aside0 (wx.heap[b2]? = some (.cells (ints (List.replicate (v.length + 1) 0)) 3 (0, 0))) ∧ Aside0 (b1 ≠ b2 ∧ w3.heap.size ≤ b1 ∧ w3.heap.size ≤ b2))
        case first =>
          go_region
          all_goals
            go_wp2_with fail
            go_meet
            refine ⟨_, _, rfl, rfl, ⟨(two w3 _ _).2.2⟩, ⟨?_⟩, ⟨?_⟩, ⟨by omega, by omega, by omega⟩⟩
            · rw [← made_ints]; first | exact (two w3 _ _).1 | exact (two w3 _ _).2.1
            · rw [← made_ints]; first | exact (two w3 _ _).1 | exact (two w3 _ _).2.1
        case rest =>
          obtain ⟨b1, b2, rfl, rfl, HBX, HY1, HY2, HNE⟩ := hcut
          have HM2 := Aside0.mk (HM3'.out.but HBX.out)
          have HBR2 := Aside0.mk (blk_below HBR.out HBX.out)
          have HBF := Aside0.mk HM3'.out.bel
          have hlen := HROW.out.1
          have HL1 := Aside0.mk (show (tabLo (rd_T45 rs i).f0 fx).length = v.length + 1 by rw [tabLo_length]; omega)
          have HL2 := Aside0.mk (show (tabHi (rd_T45 rs i).f0 fx).length = v.length + 1 by rw [tabHi_length]; omega)
          have HK := Aside0.mk (But.refl (fun k => k = b1 ∨ k = b2) wc)
          have hy1 := HY1.out
          have hy2 := HY2.out
          rw [← HL1.out, ← fill_zero] at hy1
          rw [← HL2.out, ← fill_zero] at hy2
          have HZ1 := Aside0.mk hy1
          have HZ2 := Aside0.mk hy2
          have HW1 := Aside0.mk (show wrap64 ((v.length : Int) + 1) = (v.length : Int) + 1 by have := HP.out.vars; rw [wrap_nat (by omega)]; omega)
          clear hy1 hy2 hlen HBR hx0 hx1 hx2 hm3 HY1 HY2
          go_wp2
          go_loopg [41] (v.length + 1) (fun kq v41 w' => ∃ (j : Int), v41 = .int .i64 j ∧ Aside0 (0 ≤ j ∧ j + kq = v.length + 1) ∧ Aside0 (But (fun k => k = b1 ∨ k = b2) wc w') ∧
            Aside0 (w'.heap[b1]? = some (.cells (ints (fill (tabLo (rd_T45 rs i).f0 fx) j.toNat)) 3 (0, 0))) ∧ Aside0 (w'.heap[b2]? = some (.cells (ints (fill (tabHi (rd_T45 rs i).f0 fx) j.toNat)) 3 (0, 0))))
          case atStart => exact ⟨0, rfl, ⟨by omega⟩, HK, HZ1, HZ2⟩
          case round =>
            obtain ⟨j, rfl, HJ, HKJ, HT1, HT2⟩ := hrel
            by_cases cj : j < wrap64 ((v.length : Int) + 1)
            · have cjb : decide (j < wrap64 ((v.length : Int) + 1)) = true := decide_eq_true cj
              have cj' := cj
              rw [HW1.out] at cj'
              have j0 := HJ.out.1
              have hkr : ¬ (k0 = b1 ∨ k0 = b2) := by
                have h1 := HNE.out; have h2 := HLT3.out; omega
              have hkp : ¬ (w.heap.size = b1 ∨ w.heap.size = b2) := by
                have h1 := HNE.out; have h2 := HLT3.out; have h3 := HSZ.out; omega
              have hr0 : wr.cell? ⟨k0, 0, none⟩ = some (.slice Arr (rd_T45 rs i).f0.length crr) := (blk_cell (HKJ.out.blk HBR2.out hkr) 0).trans rfl
              have hp2 : wr.cell? ⟨w.heap.size, 2, none⟩ = some (.slice A2 fx.length c2) := (blk_cell (HKJ.out.blk HM2.out.bp hkp) 2).trans rfl
              have HCJ := Aside0.mk cj'
              have HJ0 := Aside0.mk j0
              clear hkr hkp cj cj' j0
              go_wp2_with (go_at_call 25; fail)
              have hbl : Below w3.heap.size w3 wr := below_both HBX.out (HKJ.out.below HBX.out.size (fun k hk => by have := HNE.out; omega))
              have hjn : j.toNat ≤ (rd_T45 rs i).f0.length := by have h1 := HROW.out.1; have h2 := HCJ.out; have h3 := HJ0.out; omega
              obtain ⟨ks, hks⟩ := (span_ev (rd_T45 rs i).f0 fx HROW.out.2.2.2 (by have h1 := HROW.out.1; have h2 := HP.out.vars; omega) (by have h1 := HROW.out.1; have h2 := HP.out.fixed; omega) j.toNat hjn).rounds
              rw [show ((j.toNat : Nat) : Int) = j by have := HJ0.out; omega] at hks
              rw [← tabLo_rd _ _ hjn, ← tabHi_rd _ _ hjn] at hks
              rw [show ((j.toNat : Nat) : Int) = j by have := HJ0.out; omega] at hks
              have hcall := zeroone_span.calls ks Arr crr (rd_T45 rs i).f0 A2 c2 fx j _ _ wr (Kd.C_below HX5.out hbl) HX3.out (Kd.C_below HF.out (below_then HBF.out HBF.out.size hbl)) HC2.out hks
              (with_reducible refine hcall.mono ?_)
              rintro e wy ⟨rfl, hb⟩
              have j1 : j.toNat < (tabLo (rd_T45 rs i).f0 fx).length := by have h1 := HL1.out; have h2 := HCJ.out; have h3 := HJ0.out; omega
              have j2 : j.toNat < (tabHi (rd_T45 rs i).f0 fx).length := by have h1 := HL2.out; have h2 := HCJ.out; have h3 := HJ0.out; omega
              have e1 := fill_step (tabLo (rd_T45 rs i).f0 fx) j1
              have e2 := fill_step (tabHi (rd_T45 rs i).f0 fx) j2
              rw [show ((j.toNat : Nat) : Int) = j by have := HJ0.out; omega] at e1 e2
              have E1 := Aside0.mk e1
              have E2 := Aside0.mk e2
              have hy1 := blk_below HT1.out hb
              have hy2 := blk_below HT2.out hb
              have n12 : b2 ≠ b1 := fun e => HNE.out.1 e.symm
              have hz1 : wy.cell? ⟨b1, j.toNat, none⟩ = some (.int .i64 0) := (blk_cell hy1 j.toNat).trans (fill_cell _ j1)
              have hf1 := blk_frozen hy1 j.toNat
              have hy3 : (wy.setCell ⟨b1, j.toNat, none⟩ (.int .i64 (rd (tabLo (rd_T45 rs i).f0 fx) j))).heap[b2]? = _ := blk_far hy2 (p := ⟨b1, j.toNat, none⟩) n12 _
              have hz2 : (wy.setCell ⟨b1, j.toNat, none⟩ (.int .i64 (rd (tabLo (rd_T45 rs i).f0 fx) j))).cell? ⟨b2, j.toNat, none⟩ = some (.int .i64 0) := (blk_cell hy3 j.toNat).trans (fill_cell _ j2)
              have hf2 := blk_frozen hy3 j.toNat
              have z0 : (0 ≤ j) = True := eq_true HJ0.out
              have z1 : (j < ((v.length + 1 : Nat) : Int)) = True := eq_true (by have := HCJ.out; omega)
              have z2 : (j < (v.length : Int) + 1) = True := eq_true HCJ.out
              have HKY := Aside0.mk ((HKJ.out.trans (But.of_below hb)).set (p := ⟨b1, j.toNat, none⟩) (.inl rfl) (.int .i64 (rd (tabLo (rd_T45 rs i).f0 fx) j)))
              have HY1 := Aside0.mk hy1
              have HY3 := Aside0.mk hy3
              clear hbl hjn hks hcall hb j1 j2 e1 e2 hy1 hy2 hy3 n12 hr0 hp2
              go_wp2
              obtain ⟨k1, rfl⟩ : ∃ k1, gk = k1 + 1 := ⟨gk - 1, by have h1 := HJ.out; have h2 := HCJ.out; omega⟩
              have HWJ := Aside0.mk (show wrap64 (j + 1) = j + 1 by have h1 := HCJ.out; have h2 := HJ0.out; have h3 := HP.out.vars; unfold wrap64; omega)
              go_roundg k1
              case measure => omega
              case rel =>
                refine ⟨j + 1, by first | rfl | (simp [HWJ.out]; done), ⟨by have h1 := HJ.out; omega⟩, ⟨HKY.out.set (p := ⟨b2, j.toNat, none⟩) (.inr rfl) _⟩, ⟨?_⟩, ⟨?_⟩⟩
                · rw [show (j + 1).toNat = j.toNat + 1 by have := HJ0.out; omega]
                  exact blk_far (blk_put HY1.out j.toNat _ E1.out) (p := ⟨b2, j.toNat, none⟩) HNE.out.1 _
                · rw [show (j + 1).toNat = j.toNat + 1 by have := HJ0.out; omega]
                  exact blk_put HY3.out j.toNat _ E2.out
            · have cjb : decide (j < wrap64 ((v.length : Int) + 1)) = false := decide_eq_false cj
              rw [HW1.out] at cj
              have hjf : j.toNat = v.length + 1 := by have h1 := HJ.out; omega
              have ht1 := HT1.out
              have ht2 := HT2.out
              rw [hjf, ← HL1.out, fill_all] at ht1
              rw [hjf, ← HL2.out, fill_all] at ht2
              have HT3 := Aside0.mk ht1
              have HT4 := Aside0.mk ht2
              have hsK : ∀ k, (k = b1 ∨ k = b2) → w3.heap.size ≤ k := fun k hk => by have := HNE.out; omega
              have hm4 : Mid w B0 A0 (some adr) A2 c0 c1 c2 v.length rs.length rs fx g gs gx gr i.toNat loV hiV bl bh wr := HM3'.out.but (below_both HBX.out (HKJ.out.below HBX.out.size hsK))
              have HM4 := Aside0.mk hm4
              clear cj hjf ht1 ht2 HT1 HT2 hsK hm4
              go_upto_region 12 with fail
              have HIT := Aside0.mk (show ((i.toNat : Nat) : Int) = i by have := HI.out; omega)
              have HLIM := Aside0.mk (show (bl.length + 1) * 24 ≤ 140737488355328 by have h1 := HM4.out.nl; have h2 := HI.out; have h3 := HP.out.rows; omega)
              have HLIM2 := Aside0.mk (show (bh.length + 1) * 24 ≤ 140737488355328 by have h1 := HM4.out.nh; have h2 := HI.out; have h3 := HP.out.rows; omega)
              have HGE := Aside0.mk (show B0 ≤ b1 ∧ B0 ≤ b2 by have h1 := HNE.out; have h2 := HM3'.out.sz; omega)
              have HWI := Aside0.mk (show wrap64 (i + 1) = i + 1 by have h1 := HI.out; have h2 := HP.out.rows; unfold wrap64; omega)
              refine start_ (n := 22) (S := fun w' => w'.cell? ⟨g, 3, none⟩ = some loV ∧ w'.cell? ⟨g, 4, none⟩ = some hiV) (ds := [18, 21]) #[false, false, false, false, false, false, false, false, false, false, false, false, false, false, false, false, false, false, false, false, false, false] (by kernel_rfl) rfl rfl ⟨(blk_cell HM4.out.bg 3).trans rfl, (blk_cell HM4.out.bg 4).trans rfl⟩ (fun hHeld => ?_)
              have HUP := Aside0.mk (below_drew (Below.refl wr.heap.size wr))
              refine pure_ (i := 0) (N := (some 60)) (v := ?_) (a' := ?_) #[true, false, false, false, false, false, false, false, false, false, false, false, false, false, false, false, false, false, false, false, false, false] rfl rfl (by kernel_rfl) (fun _ _ _ h => h) (Or.inl ⟨by rfl, ?_⟩) ?_ ?_
              rotate_left
              · intro w'; go_simp; with_reducible rfl
              rotate_left
              · simp only [Act.put, List.setIfInBounds_toArray, List.set_cons_zero, List.set_cons_succ, i64_w]; rfl
              refine pure_ (i := 1) (N := (some 61)) (v := ?_) (a' := ?_) #[true, true, false, false, false, false, false, false, false, false, false, false, false, false, false, false, false, false, false, false, false, false] rfl rfl (by kernel_rfl) (fun _ _ _ h => h) (Or.inl ⟨by rfl, ?_⟩) ?_ ?_
              rotate_left
              · intro w'; go_simp; with_reducible rfl
              rotate_left
              · simp only [Act.put, List.setIfInBounds_toArray, List.set_cons_zero, List.set_cons_succ, i64_w]; rfl
              refine pure_ (i := 2) (N := (some 62)) (v := ?_) (a' := ?_) #[true, true, true, false, false, false, false, false, false, false, false, false, false, false, false, false, false, false, false, false, false, false] rfl rfl (by kernel_rfl) (fun _ _ _ h => h) (Or.inl ⟨by rfl, ?_⟩) ?_ ?_
              rotate_left
              · intro w'; go_simp; with_reducible rfl
              rotate_left
              · simp only [Act.put, List.setIfInBounds_toArray, List.set_cons_zero, List.set_cons_succ, i64_w]; rfl
              refine pure_ (i := 3) (N := (some 63)) (v := ?_) (a' := ?_) #[true, true, true, true, false, false, false, false, false, false, false, false, false, false, false, false, false, false, false, false, false, false] rfl rfl (by kernel_rfl) (fun _ _ _ h => h) (Or.inl ⟨by rfl, ?_⟩) ?_ ?_
              rotate_left
              · intro w'; go_simp; with_reducible rfl
              rotate_left
              · simp only [Act.put, List.setIfInBounds_toArray, List.set_cons_zero, List.set_cons_succ, i64_w]; rfl
              refine pure_ (i := 4) (N := (some 64)) (v := ?_) (a' := ?_) #[true, true, true, true, true, false, false, false, false, false, false, false, false, false, false, false, false, false, false, false, false, false] rfl rfl (by kernel_rfl) (fun _ _ _ h => h) (Or.inl ⟨by rfl, ?_⟩) ?_ ?_
              rotate_left
              · intro w'; go_simp; with_reducible rfl
              rotate_left
              · simp only [Act.put, List.setIfInBounds_toArray, List.set_cons_zero, List.set_cons_succ, i64_w]; rfl
              refine take_ (i := 5) (N := (some 65)) (v := ?_) (a' := ?_) #[true, true, true, true, true, true, false, false, false, false, false, false, false, false, false, false, false, false, false, false, false, false] rfl rfl (by kernel_rfl) (fun _ _ _ h => h) (Or.inl ⟨by rfl, ?_⟩) hHeld ?_ ?_
              rotate_left
              · rintro w' ⟨s0, s1⟩; go_simp; with_reducible rfl
              rotate_left
              · simp only [Act.put, List.setIfInBounds_toArray, List.set_cons_zero, List.set_cons_succ, i64_w]; rfl
              refine pure_ (i := 6) (N := (some 66)) (v := ?_) (a' := ?_) #[true, true, true, true, true, true, true, false, false, false, false, false, false, false, false, false, false, false, false, false, false, false] rfl rfl (by kernel_rfl) (fun _ _ _ h => h) (Or.inl ⟨by rfl, ?_⟩) ?_ ?_
              rotate_left
              · intro w'; go_simp; with_reducible rfl
              rotate_left
              · simp only [Act.put, List.setIfInBounds_toArray, List.set_cons_zero, List.set_cons_succ, i64_w]; rfl
              refine pure_ (i := 9) (N := (some 69)) (v := ?_) (a' := ?_) #[true, true, true, true, true, true, true, false, false, true, false, false, false, false, false, false, false, false, false, false, false, false] rfl rfl (by kernel_rfl) (fun _ _ _ h => h) (Or.inl ⟨by rfl, ?_⟩) ?_ ?_
              rotate_left
              · intro w'; go_simp; with_reducible rfl
              rotate_left
              · simp only [Act.put, List.setIfInBounds_toArray, List.set_cons_zero, List.set_cons_succ, i64_w]; rfl
              refine pure_ (i := 10) (N := (some 70)) (v := ?_) (a' := ?_) #[true, true, true, true, true, true, true, false, false, true, true, false, false, false, false, false, false, false, false, false, false, false] rfl rfl (by kernel_rfl) (fun _ _ _ h => h) (Or.inl ⟨by rfl, ?_⟩) ?_ ?_
              rotate_left
              · intro w'; go_simp; with_reducible rfl
              rotate_left
              · simp only [Act.put, List.setIfInBounds_toArray, List.set_cons_zero, List.set_cons_succ, i64_w]; rfl
              refine pure_ (i := 11) (N := (some 71)) (v := ?_) (a' := ?_) #[true, true, true, true, true, true, true, false, false, true, true, true, false, false, false, false, false, false, false, false, false, false] rfl rfl (by kernel_rfl) (fun _ _ _ h => h) (Or.inl ⟨by rfl, ?_⟩) ?_ ?_
              rotate_left
              · intro w'; go_simp; with_reducible rfl
              rotate_left
              · simp only [Act.put, List.setIfInBounds_toArray, List.set_cons_zero, List.set_cons_succ, i64_w]; rfl
              refine take_ (i := 12) (N := (some 72)) (v := ?_) (a' := ?_) #[true, true, true, true, true, true, true, false, false, true, true, true, true, false, false, false, false, false, false, false, false, false] rfl rfl (by kernel_rfl) (fun _ _ _ h => h) (Or.inl ⟨by rfl, ?_⟩) hHeld ?_ ?_
              rotate_left
              · rintro w' ⟨s0, s1⟩; go_simp; with_reducible rfl
              rotate_left
              · simp only [Act.put, List.setIfInBounds_toArray, List.set_cons_zero, List.set_cons_succ, i64_w]; rfl
              refine pure_ (i := 13) (N := (some 73)) (v := ?_) (a' := ?_) #[true, true, true, true, true, true, true, false, false, true, true, true, true, true, false, false, false, false, false, false, false, false] rfl rfl (by kernel_rfl) (fun _ _ _ h => h) (Or.inl ⟨by rfl, ?_⟩) ?_ ?_
              rotate_left
              · intro w'; go_simp; with_reducible rfl
              rotate_left
              · simp only [Act.put, List.setIfInBounds_toArray, List.set_cons_zero, List.set_cons_succ, i64_w]; rfl
              refine two_ (i := 7) (j := 14) (Ni := some 67) (Nj := some 74) #[true, true, true, true, true, true, true, true, false, true, true, true, true, true, false, false, false, false, false, false, false, false] #[true, true, true, true, true, true, true, false, false, true, true, true, true, true, true, false, false, false, false, false, false, false] rfl rfl rfl rfl (by kernel_rfl) (by decide) (by decide) (fun K hK => ?_) (fun K hK => ?_)
              · have HUPa := Aside0.mk (below_alloc HUP.out (.cells #[slot v.length b1] 22 (0, 0)))
                refine value_ (w1 := ?_) (v := ?_) (by rfl) rfl ?_ ?_
                rotate_left 2
                · go_simp
                  constructor
                  · rfl
                  · rfl
                refine hK.out _ _ ⟨(blk_cell (blk_alloc (blk_drew HM4.out.bg) _) 3).trans rfl, (blk_cell (blk_alloc (blk_drew HM4.out.bg) _) 4).trans rfl⟩ (fun hHeld => ?_)
                clear hK K
                refine norm_ (a' := ?_) ?_ ?_
                rotate_left
                · show Act.put _ (some 67) _ = _
                  simp only [Act.put, List.setIfInBounds_toArray, List.set_cons_zero, List.set_cons_succ, i64_w]; rfl
                refine two_ (i := 8) (j := 14) (Ni := some 68) (Nj := some 74) #[true, true, true, true, true, true, true, true, true, true, true, true, true, true, false, false, false, false, false, false, false, false] #[true, true, true, true, true, true, true, true, false, true, true, true, true, true, true, false, false, false, false, false, false, false] rfl rfl rfl rfl (by kernel_rfl) (by decide) (by decide) (fun K hK => ?_) (fun K hK => ?_)
                · clear HUP; have HUP := HUPa
                  refine Kd.R_append_rows_step (slots v.length) (w0 := wr) B0 (by rfl) (.tmp 65) (.tmp 67) 56 22 (.slice none 0 0) 24 rfl Try.underlying56 info22 rfl Nat.one_pos (by decide) loV bl [b1] _ 1 1 (fun _ => True) (fun _ => False) rfl rfl ?aO ?aR (fun _ _ q => q) (fun _ q => q.elim) (fun _ _ => trivial) ?aB ?aS HLIM.out ?_
                  case aO => exact Kd.R_below HM4.out.lo HUP.out
                  case aR => exact box_reads (blk_new wr.drew _)
                  case aB => exact below_low HUP.out HM4.out.sz
                  case aS => exact Nat.le_trans HM4.out.sz HUP.out.size
                  intro v1 w1 ho1 hb1 hg1 ha1
                  have HGW := Aside0.mk (Grown.mk' (wr := wr) HUP.out ho1 hb1 hg1 ha1)
                  have HBOX := Aside0.mk (fun {k : Nat} {o : Obj} => grown_box (k := k) (o := o) HM4.out.lo hg1)
                  have HG1 := Aside0.mk ((hb1.block g HM4.out.lt.2.1).trans HM4.out.bg)
                  have HUP2 := Aside0.mk (Below.refl w1.heap.size w1)
                  obtain ⟨Av1, cv1, rfl⟩ := Kd.R_slice ho1
                  clear ho1 hb1 hg1 ha1
                  refine hK.out _ _ ⟨(blk_cell HG1.out 3).trans rfl, (blk_cell HG1.out 4).trans rfl⟩ (fun hHeld => ?_)
                  clear hK K
                  refine norm_ (a' := ?_) ?_ ?_
                  rotate_left
                  · show Act.put _ (some 68) _ = _
                    simp only [Act.put, List.setIfInBounds_toArray, List.set_cons_zero, List.set_cons_succ, i64_w]; rfl
                  refine one_ (i := 14) (N := some 74) #[true, true, true, true, true, true, true, true, true, true, true, true, true, true, true, false, false, false, false, false, false, false] rfl rfl (by kernel_rfl) (by decide) (fun K hK => ?_)
                  have HUPb := Aside0.mk (below_alloc HUP2.out (.cells #[slot v.length b2] 22 (0, 0)))
                  refine value_ (w1 := ?_) (v := ?_) (by rfl) rfl ?_ ?_
                  rotate_left 2
                  · go_simp
                    constructor
                    · rfl
                    · rfl
                  refine hK.out _ _ ⟨(blk_cell (blk_alloc HG1.out _) 3).trans rfl, (blk_cell (blk_alloc HG1.out _) 4).trans rfl⟩ (fun hHeld => ?_)
                  clear hK K
                  refine norm_ (a' := ?_) ?_ ?_
                  rotate_left
                  · show Act.put _ (some 74) _ = _
                    simp only [Act.put, List.setIfInBounds_toArray, List.set_cons_zero, List.set_cons_succ, i64_w]; rfl
                  clear HUP2; have HUP2 := HUPb
                  refine one_ (i := 15) (N := some 75) #[true, true, true, true, true, true, true, true, true, true, true, true, true, true, true, true, false, false, false, false, false, false] rfl rfl (by kernel_rfl) (by decide) (fun K hK => ?_)
                  refine Kd.R_append_rows_step (slots v.length) (w0 := wr) B0 (by rfl) (.tmp 72) (.tmp 74) 56 22 (.slice none 0 0) 24 rfl Try.underlying56 info22 rfl Nat.one_pos (by decide) hiV bh [b2] _ 1 1 (fun _ => True) (fun _ => False) rfl rfl ?aO ?aR (fun _ _ q => q) (fun _ q => q.elim) (fun _ _ => trivial) ?aB ?aS HLIM2.out ?_
                  case aO => exact Kd.R_below (HGW.out.other HM4.out.hi HM4.out.ap) HUP2.out
                  case aR => exact box_reads (blk_new w1 _)
                  case aB => exact below_both HGW.out.bel (below_low HUP2.out (Nat.le_trans HM4.out.sz HGW.out.sz))
                  case aS => exact Nat.le_trans (Nat.le_trans HM4.out.sz HGW.out.sz) HUP2.out.size
                  intro v2 w2 ho2 hb2 hg2 ha2
                  have HM5 := Aside0.mk (Grown.both HM4.out HGW.out HUP2.out ho2 hb2 hg2 ha2 HGE.out.1 HGE.out.2 (by rw [HIT.out]; exact HT3.out) (by rw [HIT.out]; exact HT4.out))
                  have HG2 := Aside0.mk ((hb2.block g HM4.out.lt.2.1).trans HM4.out.bg)
                  obtain ⟨Av2, cv2, rfl⟩ := Kd.R_slice ho2
                  clear ho2 hb2 hg2 ha2
                  refine hK.out _ _ ⟨(blk_cell HG2.out 3).trans rfl, (blk_cell HG2.out 4).trans rfl⟩ (fun hHeld => ?_)
                  clear hK K
                  refine norm_ (a' := ?_) ?_ ?_
                  rotate_left
                  · show Act.put _ (some 75) _ = _
                    simp only [Act.put, List.setIfInBounds_toArray, List.set_cons_zero, List.set_cons_succ, i64_w]; rfl
                  refine pure_ (i := 16) (N := (some 76)) (v := ?_) (a' := ?_) #[true, true, true, true, true, true, true, true, true, true, true, true, true, true, true, true, true, false, false, false, false, false] rfl rfl (by kernel_rfl) (fun _ _ _ h => h) (Or.inl ⟨by rfl, ?_⟩) ?_ ?_
                  rotate_left
                  · intro w'; go_simp; with_reducible rfl
                  rotate_left
                  · simp only [Act.put, List.setIfInBounds_toArray, List.set_cons_zero, List.set_cons_succ, i64_w]; rfl
                  refine pure_ (i := 17) (N := (some 77)) (v := ?_) (a' := ?_) #[true, true, true, true, true, true, true, true, true, true, true, true, true, true, true, true, true, true, false, false, false, false] rfl rfl (by kernel_rfl) (fun _ _ _ h => h) (Or.inl ⟨by rfl, ?_⟩) ?_ ?_
                  rotate_left
                  · intro w'; go_simp; with_reducible rfl
                  rotate_left
                  · simp only [Act.put, List.setIfInBounds_toArray, List.set_cons_zero, List.set_cons_succ, i64_w]; rfl
                  have hs3 : w2.cell? ⟨g, 3, none⟩ = some loV := (blk_cell HG2.out 3).trans rfl
                  have hf3 := blk_frozen HG2.out 3
                  have hs4 : w2.cell? ⟨g, 4, none⟩ = some hiV := (blk_cell HG2.out 4).trans rfl
                  have hf4 := blk_frozen HG2.out 4
                  refine last_ (i := 18) (N := none) #[true, true, true, true, true, true, true, true, true, true, true, true, true, true, true, true, true, true, true, false, false, false] rfl rfl (by kernel_rfl) (by decide) (fun K hK => ?_)
                  refine skip_ (w1 := ?_) (by rfl) rfl ?_ ?_
                  rotate_left
                  · go_simp
                    rfl
                  refine hK.out _ _ ?_
                  clear hK K
                  refine pure_ (i := 19) (N := (some 78)) (v := ?_) (a' := ?_) #[true, true, true, true, true, true, true, true, true, true, true, true, true, true, true, true, true, true, true, true, false, false] rfl rfl (by kernel_rfl) (fun _ _ _ h => h) (Or.inl ⟨by rfl, ?_⟩) ?_ ?_
                  rotate_left
                  · intro w'; go_simp; with_reducible rfl
                  rotate_left
                  · simp only [Act.put, List.setIfInBounds_toArray, List.set_cons_zero, List.set_cons_succ, i64_w]; rfl
                  refine pure_ (i := 20) (N := (some 79)) (v := ?_) (a' := ?_) #[true, true, true, true, true, true, true, true, true, true, true, true, true, true, true, true, true, true, true, true, true, false] rfl rfl (by kernel_rfl) (fun _ _ _ h => h) (Or.inl ⟨by rfl, ?_⟩) ?_ ?_
                  rotate_left
                  · intro w'; go_simp; with_reducible rfl
                  rotate_left
                  · simp only [Act.put, List.setIfInBounds_toArray, List.set_cons_zero, List.set_cons_succ, i64_w]; rfl
                  refine last_ (i := 21) (N := none) #[true, true, true, true, true, true, true, true, true, true, true, true, true, true, true, true, true, true, true, true, true, true] rfl rfl (by kernel_rfl) (by decide) (fun K hK => ?_)
                  refine skip_ (w1 := ?_) (by rfl) rfl ?_ ?_
                  rotate_left
                  · go_simp
                    rfl
                  refine hK.out _ _ ?_
                  clear hK K
                  refine done_ (by kernel_rfl) ?_
                  clear hs3 hs4 hf3 hf4 hHeld
                  go_wp2
                  go_roundg kk
                  case measure => omega
                  case rel => exact ⟨i + 1, _, _, _, _, (by first | rfl | (simp [HWI.out]; done)), ⟨by have := HI.out; omega⟩, ⟨by rw [show (i + 1).toNat = i.toNat + 1 by have := HI.out; omega]; have h := HM5.out; simp only [List.length_append, List.length_singleton] at h; exact h⟩⟩
                · have HUPb := Aside0.mk (below_alloc HUPa.out (.cells #[slot v.length b2] 22 (0, 0)))
                  refine value_ (w1 := ?_) (v := ?_) (by rfl) rfl ?_ ?_
                  rotate_left 2
                  · go_simp
                    constructor
                    · rfl
                    · rfl
                  refine hK.out _ _ ⟨(blk_cell (blk_alloc (blk_alloc (blk_drew HM4.out.bg) _) _) 3).trans rfl, (blk_cell (blk_alloc (blk_alloc (blk_drew HM4.out.bg) _) _) 4).trans rfl⟩ (fun hHeld => ?_)
                  clear hK K
                  refine norm_ (a' := ?_) ?_ ?_
                  rotate_left
                  · show Act.put _ (some 74) _ = _
                    simp only [Act.put, List.setIfInBounds_toArray, List.set_cons_zero, List.set_cons_succ, i64_w]; rfl
                  clear HUP; have HUP := HUPb
                  refine one_ (i := 8) (N := some 68) #[true, true, true, true, true, true, true, true, true, true, true, true, true, true, true, false, false, false, false, false, false, false] rfl rfl (by kernel_rfl) (by decide) (fun K hK => ?_)
                  refine Kd.R_append_rows_step (slots v.length) (w0 := wr) B0 (by rfl) (.tmp 65) (.tmp 67) 56 22 (.slice none 0 0) 24 rfl Try.underlying56 info22 rfl Nat.one_pos (by decide) loV bl [b1] _ 1 1 (fun _ => True) (fun _ => False) rfl rfl ?aO ?aR (fun _ _ q => q) (fun _ q => q.elim) (fun _ _ => trivial) ?aB ?aS HLIM.out ?_
                  case aO => exact Kd.R_below HM4.out.lo HUP.out
                  case aR => exact box_reads (blk_alloc (blk_new wr.drew _) _)
                  case aB => exact below_low HUP.out HM4.out.sz
                  case aS => exact Nat.le_trans HM4.out.sz HUP.out.size
                  intro v1 w1 ho1 hb1 hg1 ha1
                  have HGW := Aside0.mk (Grown.mk' (wr := wr) HUP.out ho1 hb1 hg1 ha1)
                  have HBOX := Aside0.mk (fun {k : Nat} {o : Obj} => grown_box (k := k) (o := o) HM4.out.lo hg1)
                  have HG1 := Aside0.mk ((hb1.block g HM4.out.lt.2.1).trans HM4.out.bg)
                  have HUP2 := Aside0.mk (Below.refl w1.heap.size w1)
                  obtain ⟨Av1, cv1, rfl⟩ := Kd.R_slice ho1
                  clear ho1 hb1 hg1 ha1
                  refine hK.out _ _ ⟨(blk_cell HG1.out 3).trans rfl, (blk_cell HG1.out 4).trans rfl⟩ (fun hHeld => ?_)
                  clear hK K
                  refine norm_ (a' := ?_) ?_ ?_
                  rotate_left
                  · show Act.put _ (some 68) _ = _
                    simp only [Act.put, List.setIfInBounds_toArray, List.set_cons_zero, List.set_cons_succ, i64_w]; rfl
                  refine one_ (i := 15) (N := some 75) #[true, true, true, true, true, true, true, true, true, true, true, true, true, true, true, true, false, false, false, false, false, false] rfl rfl (by kernel_rfl) (by decide) (fun K hK => ?_)
                  refine Kd.R_append_rows_step (slots v.length) (w0 := wr) B0 (by rfl) (.tmp 72) (.tmp 74) 56 22 (.slice none 0 0) 24 rfl Try.underlying56 info22 rfl Nat.one_pos (by decide) hiV bh [b2] _ 1 1 (fun _ => True) (fun _ => False) rfl rfl ?aO ?aR (fun _ _ q => q) (fun _ q => q.elim) (fun _ _ => trivial) ?aB ?aS HLIM2.out ?_
                  case aO => exact Kd.R_below (HGW.out.other HM4.out.hi HM4.out.ap) HUP2.out
                  case aR => exact box_reads (HBOX.out (next_new wr.drew _ _) (Nat.le_succ _))
                  case aB => exact below_both HGW.out.bel (below_low HUP2.out (Nat.le_trans HM4.out.sz HGW.out.sz))
                  case aS => exact Nat.le_trans (Nat.le_trans HM4.out.sz HGW.out.sz) HUP2.out.size
                  intro v2 w2 ho2 hb2 hg2 ha2
                  have HM5 := Aside0.mk (Grown.both HM4.out HGW.out HUP2.out ho2 hb2 hg2 ha2 HGE.out.1 HGE.out.2 (by rw [HIT.out]; exact HT3.out) (by rw [HIT.out]; exact HT4.out))
                  have HG2 := Aside0.mk ((hb2.block g HM4.out.lt.2.1).trans HM4.out.bg)
                  obtain ⟨Av2, cv2, rfl⟩ := Kd.R_slice ho2
                  clear ho2 hb2 hg2 ha2
                  refine hK.out _ _ ⟨(blk_cell HG2.out 3).trans rfl, (blk_cell HG2.out 4).trans rfl⟩ (fun hHeld => ?_)
                  clear hK K
                  refine norm_ (a' := ?_) ?_ ?_
                  rotate_left
                  · show Act.put _ (some 75) _ = _
                    simp only [Act.put, List.setIfInBounds_toArray, List.set_cons_zero, List.set_cons_succ, i64_w]; rfl
                  refine pure_ (i := 16) (N := (some 76)) (v := ?_) (a' := ?_) #[true, true, true, true, true, true, true, true, true, true, true, true, true, true, true, true, true, false, false, false, false, false] rfl rfl (by kernel_rfl) (fun _ _ _ h => h) (Or.inl ⟨by rfl, ?_⟩) ?_ ?_
                  rotate_left
                  · intro w'; go_simp; with_reducible rfl
                  rotate_left
                  · simp only [Act.put, List.setIfInBounds_toArray, List.set_cons_zero, List.set_cons_succ, i64_w]; rfl
                  refine pure_ (i := 17) (N := (some 77)) (v := ?_) (a' := ?_) #[true, true, true, true, true, true, true, true, true, true, true, true, true, true, true, true, true, true, false, false, false, false] rfl rfl (by kernel_rfl) (fun _ _ _ h => h) (Or.inl ⟨by rfl, ?_⟩) ?_ ?_
                  rotate_left
                  · intro w'; go_simp; with_reducible rfl
                  rotate_left
                  · simp only [Act.put, List.setIfInBounds_toArray, List.set_cons_zero, List.set_cons_succ, i64_w]; rfl
                  have hs3 : w2.cell? ⟨g, 3, none⟩ = some loV := (blk_cell HG2.out 3).trans rfl
                  have hf3 := blk_frozen HG2.out 3
                  have hs4 : w2.cell? ⟨g, 4, none⟩ = some hiV := (blk_cell HG2.out 4).trans rfl
                  have hf4 := blk_frozen HG2.out 4
                  refine last_ (i := 18) (N := none) #[true, true, true, true, true, true, true, true, true, true, true, true, true, true, true, true, true, true, true, false, false, false] rfl rfl (by kernel_rfl) (by decide) (fun K hK => ?_)
                  refine skip_ (w1 := ?_) (by rfl) rfl ?_ ?_
                  rotate_left
                  · go_simp
                    rfl
                  refine hK.out _ _ ?_
                  clear hK K
                  refine pure_ (i := 19) (N := (some 78)) (v := ?_) (a' := ?_) #[true, true, true, true, true, true, true, true, true, true, true, true, true, true, true, true, true, true, true, true, false, false] rfl rfl (by kernel_rfl) (fun _ _ _ h => h) (Or.inl ⟨by rfl, ?_⟩) ?_ ?_
                  rotate_left
                  · intro w'; go_simp; with_reducible rfl
                  rotate_left
                  · simp only [Act.put, List.setIfInBounds_toArray, List.set_cons_zero, List.set_cons_succ, i64_w]; rfl
                  refine pure_ (i := 20) (N := (some 79)) (v := ?_) (a' := ?_) #[true, true, true, true, true, true, true, true, true, true, true, true, true, true, true, true, true, true, true, true, true, false] rfl rfl (by kernel_rfl) (fun _ _ _ h => h) (Or.inl ⟨by rfl, ?_⟩) ?_ ?_
                  rotate_left
                  · intro w'; go_simp; with_reducible rfl
                  rotate_left
                  · simp only [Act.put, List.setIfInBounds_toArray, List.set_cons_zero, List.set_cons_succ, i64_w]; rfl
                  refine last_ (i := 21) (N := none) #[true, true, true, true, true, true, true, true, true, true, true, true, true, true, true, true, true, true, true, true, true, true] rfl rfl (by kernel_rfl) (by decide) (fun K hK => ?_)
                  refine skip_ (w1 := ?_) (by rfl) rfl ?_ ?_
                  rotate_left
                  · go_simp
                    rfl
                  refine hK.out _ _ ?_
                  clear hK K
                  refine done_ (by kernel_rfl) ?_
                  clear hs3 hs4 hf3 hf4 hHeld
                  go_wp2
                  go_roundg kk
                  case measure => omega
                  case rel => exact ⟨i + 1, _, _, _, _, (by first | rfl | (simp [HWI.out]; done)), ⟨by have := HI.out; omega⟩, ⟨by rw [show (i + 1).toNat = i.toNat + 1 by have := HI.out; omega]; have h := HM5.out; simp only [List.length_append, List.length_singleton] at h; exact h⟩⟩
              · have HUPa := Aside0.mk (below_alloc HUP.out (.cells #[slot v.length b2] 22 (0, 0)))
                refine value_ (w1 := ?_) (v := ?_) (by rfl) rfl ?_ ?_
                rotate_left 2
                · go_simp
                  constructor
                  · rfl
                  · rfl
                refine hK.out _ _ ⟨(blk_cell (blk_alloc (blk_drew HM4.out.bg) _) 3).trans rfl, (blk_cell (blk_alloc (blk_drew HM4.out.bg) _) 4).trans rfl⟩ (fun hHeld => ?_)
                clear hK K
                refine norm_ (a' := ?_) ?_ ?_
                rotate_left
                · show Act.put _ (some 74) _ = _
                  simp only [Act.put, List.setIfInBounds_toArray, List.set_cons_zero, List.set_cons_succ, i64_w]; rfl
                refine one_ (i := 7) (N := some 67) #[true, true, true, true, true, true, true, true, false, true, true, true, true, true, true, false, false, false, false, false, false, false] rfl rfl (by kernel_rfl) (by decide) (fun K hK => ?_)
                have HUPb := Aside0.mk (below_alloc HUPa.out (.cells #[slot v.length b1] 22 (0, 0)))
                refine value_ (w1 := ?_) (v := ?_) (by rfl) rfl ?_ ?_
                rotate_left 2
                · go_simp
                  constructor
                  · rfl
                  · rfl
                refine hK.out _ _ ⟨(blk_cell (blk_alloc (blk_alloc (blk_drew HM4.out.bg) _) _) 3).trans rfl, (blk_cell (blk_alloc (blk_alloc (blk_drew HM4.out.bg) _) _) 4).trans rfl⟩ (fun hHeld => ?_)
                clear hK K
                refine norm_ (a' := ?_) ?_ ?_
                rotate_left
                · show Act.put _ (some 67) _ = _
                  simp only [Act.put, List.setIfInBounds_toArray, List.set_cons_zero, List.set_cons_succ, i64_w]; rfl
                clear HUP; have HUP := HUPb
                refine one_ (i := 8) (N := some 68) #[true, true, true, true, true, true, true, true, true, true, true, true, true, true, true, false, false, false, false, false, false, false] rfl rfl (by kernel_rfl) (by decide) (fun K hK => ?_)
                refine Kd.R_append_rows_step (slots v.length) (w0 := wr) B0 (by rfl) (.tmp 65) (.tmp 67) 56 22 (.slice none 0 0) 24 rfl Try.underlying56 info22 rfl Nat.one_pos (by decide) loV bl [b1] _ 1 1 (fun _ => True) (fun _ => False) rfl rfl ?aO ?aR (fun _ _ q => q) (fun _ q => q.elim) (fun _ _ => trivial) ?aB ?aS HLIM.out ?_
                case aO => exact Kd.R_below HM4.out.lo HUP.out
                case aR => exact box_reads (next_new wr.drew _ _)
                case aB => exact below_low HUP.out HM4.out.sz
                case aS => exact Nat.le_trans HM4.out.sz HUP.out.size
                intro v1 w1 ho1 hb1 hg1 ha1
                have HGW := Aside0.mk (Grown.mk' (wr := wr) HUP.out ho1 hb1 hg1 ha1)
                have HBOX := Aside0.mk (fun {k : Nat} {o : Obj} => grown_box (k := k) (o := o) HM4.out.lo hg1)
                have HG1 := Aside0.mk ((hb1.block g HM4.out.lt.2.1).trans HM4.out.bg)
                have HUP2 := Aside0.mk (Below.refl w1.heap.size w1)
                obtain ⟨Av1, cv1, rfl⟩ := Kd.R_slice ho1
                clear ho1 hb1 hg1 ha1
                refine hK.out _ _ ⟨(blk_cell HG1.out 3).trans rfl, (blk_cell HG1.out 4).trans rfl⟩ (fun hHeld => ?_)
                clear hK K
                refine norm_ (a' := ?_) ?_ ?_
                rotate_left
                · show Act.put _ (some 68) _ = _
                  simp only [Act.put, List.setIfInBounds_toArray, List.set_cons_zero, List.set_cons_succ, i64_w]; rfl
                refine one_ (i := 15) (N := some 75) #[true, true, true, true, true, true, true, true, true, true, true, true, true, true, true, true, false, false, false, false, false, false] rfl rfl (by kernel_rfl) (by decide) (fun K hK => ?_)
                refine Kd.R_append_rows_step (slots v.length) (w0 := wr) B0 (by rfl) (.tmp 72) (.tmp 74) 56 22 (.slice none 0 0) 24 rfl Try.underlying56 info22 rfl Nat.one_pos (by decide) hiV bh [b2] _ 1 1 (fun _ => True) (fun _ => False) rfl rfl ?aO ?aR (fun _ _ q => q) (fun _ q => q.elim) (fun _ _ => trivial) ?aB ?aS HLIM2.out ?_
                case aO => exact Kd.R_below (HGW.out.other HM4.out.hi HM4.out.ap) HUP2.out
                case aR => exact box_reads (HBOX.out (blk_alloc (blk_new wr.drew _) _) (Nat.le_refl _))
                case aB => exact below_both HGW.out.bel (below_low HUP2.out (Nat.le_trans HM4.out.sz HGW.out.sz))
                case aS => exact Nat.le_trans (Nat.le_trans HM4.out.sz HGW.out.sz) HUP2.out.size
                intro v2 w2 ho2 hb2 hg2 ha2
                have HM5 := Aside0.mk (Grown.both HM4.out HGW.out HUP2.out ho2 hb2 hg2 ha2 HGE.out.1 HGE.out.2 (by rw [HIT.out]; exact HT3.out) (by rw [HIT.out]; exact HT4.out))
                have HG2 := Aside0.mk ((hb2.block g HM4.out.lt.2.1).trans HM4.out.bg)
                obtain ⟨Av2, cv2, rfl⟩ := Kd.R_slice ho2
                clear ho2 hb2 hg2 ha2
                refine hK.out _ _ ⟨(blk_cell HG2.out 3).trans rfl, (blk_cell HG2.out 4).trans rfl⟩ (fun hHeld => ?_)
                clear hK K
                refine norm_ (a' := ?_) ?_ ?_
                rotate_left
                · show Act.put _ (some 75) _ = _
                  simp only [Act.put, List.setIfInBounds_toArray, List.set_cons_zero, List.set_cons_succ, i64_w]; rfl
                refine pure_ (i := 16) (N := (some 76)) (v := ?_) (a' := ?_) #[true, true, true, true, true, true, true, true, true, true, true, true, true, true, true, true, true, false, false, false, false, false] rfl rfl (by kernel_rfl) (fun _ _ _ h => h) (Or.inl ⟨by rfl, ?_⟩) ?_ ?_
                rotate_left
                · intro w'; go_simp; with_reducible rfl
                rotate_left
                · simp only [Act.put, List.setIfInBounds_toArray, List.set_cons_zero, List.set_cons_succ, i64_w]; rfl
                refine pure_ (i := 17) (N := (some 77)) (v := ?_) (a' := ?_) #[true, true, true, true, true, true, true, true, true, true, true, true, true, true, true, true, true, true, false, false, false, false] rfl rfl (by kernel_rfl) (fun _ _ _ h => h) (Or.inl ⟨by rfl, ?_⟩) ?_ ?_
                rotate_left
                · intro w'; go_simp; with_reducible rfl
                rotate_left
                · simp only [Act.put, List.setIfInBounds_toArray, List.set_cons_zero, List.set_cons_succ, i64_w]; rfl
                have hs3 : w2.cell? ⟨g, 3, none⟩ = some loV := (blk_cell HG2.out 3).trans rfl
                have hf3 := blk_frozen HG2.out 3
                have hs4 : w2.cell? ⟨g, 4, none⟩ = some hiV := (blk_cell HG2.out 4).trans rfl
                have hf4 := blk_frozen HG2.out 4
                refine last_ (i := 18) (N := none) #[true, true, true, true, true, true, true, true, true, true, true, true, true, true, true, true, true, true, true, false, false, false] rfl rfl (by kernel_rfl) (by decide) (fun K hK => ?_)
                refine skip_ (w1 := ?_) (by rfl) rfl ?_ ?_
                rotate_left
                · go_simp
                  rfl
                refine hK.out _ _ ?_
                clear hK K
                refine pure_ (i := 19) (N := (some 78)) (v := ?_) (a' := ?_) #[true, true, true, true, true, true, true, true, true, true, true, true, true, true, true, true, true, true, true, true, false, false] rfl rfl (by kernel_rfl) (fun _ _ _ h => h) (Or.inl ⟨by rfl, ?_⟩) ?_ ?_
                rotate_left
                · intro w'; go_simp; with_reducible rfl
                rotate_left
                · simp only [Act.put, List.setIfInBounds_toArray, List.set_cons_zero, List.set_cons_succ, i64_w]; rfl
                refine pure_ (i := 20) (N := (some 79)) (v := ?_) (a' := ?_) #[true, true, true, true, true, true, true, true, true, true, true, true, true, true, true, true, true, true, true, true, true, false] rfl rfl (by kernel_rfl) (fun _ _ _ h => h) (Or.inl ⟨by rfl, ?_⟩) ?_ ?_
                rotate_left
                · intro w'; go_simp; with_reducible rfl
                rotate_left
                · simp only [Act.put, List.setIfInBounds_toArray, List.set_cons_zero, List.set_cons_succ, i64_w]; rfl
                refine last_ (i := 21) (N := none) #[true, true, true, true, true, true, true, true, true, true, true, true, true, true, true, true, true, true, true, true, true, true] rfl rfl (by kernel_rfl) (by decide) (fun K hK => ?_)
                refine skip_ (w1 := ?_) (by rfl) rfl ?_ ?_
                rotate_left
                · go_simp
                  rfl
                refine hK.out _ _ ?_
                clear hK K
                refine done_ (by kernel_rfl) ?_
                clear hs3 hs4 hf3 hf4 hHeld
                go_wp2
                go_roundg kk
                case measure => omega
                case rel => exact ⟨i + 1, _, _, _, _, (by first | rfl | (simp [HWI.out]; done)), ⟨by have := HI.out; omega⟩, ⟨by rw [show (i + 1).toNat = i.toNat + 1 by have := HI.out; omega]; have h := HM5.out; simp only [List.length_append, List.length_singleton] at h; exact h⟩⟩
      · have cb : decide (i < (rs.length : Int)) = false := decide_eq_false c
        have hi : i.toNat = rs.length := by have h1 := HI.out; omega
        have hm := HM1.out
        rw [hi] at hm
        have HM4 := Aside0.mk hm
        have HW1 := Aside0.mk (show wrap64 ((v.length : Int) + 1) = (v.length : Int) + 1 by have := HP.out.vars; rw [wrap_nat (by omega)]; omega)
        have hr := hm.br
        rw [show v.length + 1 = (tabHi v fx).length by rw [tabHi_length], ← fill_zero] at hr
        have HR0 := Aside0.mk hr
        have HK := Aside0.mk (But.refl (fun k => k = gr) wr)
        clear hm hi hr HM1 hp1 c
        go_wp2
        generalize wr = w3 at HM4 HR0 HK ⊢
        go_loopg [83] (v.length + 1) (fun kq v83 w' => ∃ (j : Int), v83 = .int .i64 j ∧ Aside0 (0 ≤ j ∧ j + kq = v.length + 1) ∧ Aside0 (But (fun k => k = gr) w3 w') ∧ Aside0 (w'.heap[gr]? = some (.cells (ints (fill (tabHi v fx) j.toNat)) 3 (0, 0))))
        case atStart => exact ⟨0, rfl, ⟨by omega⟩, HK, HR0⟩
        case round =>
          obtain ⟨j, rfl, HJ, HKJ, HT⟩ := hrel
          by_cases cj : j < wrap64 ((v.length : Int) + 1)
          · have cjb : decide (j < wrap64 ((v.length : Int) + 1)) = true := decide_eq_true cj
            have cj' := cj
            rw [HW1.out] at cj'
            obtain ⟨kk, rfl⟩ : ∃ kk, gk = kk + 1 := ⟨gk - 1, by have h1 := HJ.out; omega⟩
            have j0 := HJ.out.1
            have hjn : j.toNat ≤ v.length := by omega
            have hlt := HM4.out.lt
            have hne := HM4.out.ne
            have hgb := HKJ.out.blk HM4.out.bg (fun e => hne.2.2.2.1 e.symm)
            have hpb := HKJ.out.blk HM4.out.bp (fun e => by omega)
            have hbel : Below w.heap.size w wr := below_both HM4.out.bel (HKJ.out.below HM4.out.bel.size (fun k hk => by subst hk; omega))
            obtain ⟨ks, hks⟩ := (span_ev v fx HP.out.okV HP.out.vars HP.out.fixed j.toNat hjn).rounds
            rw [← tabHi_rd _ _ hjn] at hks
            rw [show ((j.toNat : Nat) : Int) = j by omega] at hks
            have hcall := fun W (hW : Below w.heap.size w W) => zeroone_span.calls ks A0 c0 v A2 c2 fx j _ _ W (Kd.C_below HV.out hW) HC0.out (Kd.C_below HF.out hW) HC2.out hks
            have hj1 : j.toNat < (tabHi v fx).length := by rw [tabHi_length]; omega
            have e1 := fill_step (tabHi v fx) hj1
            rw [show ((j.toNat : Nat) : Int) = j by omega] at e1
            have E1 := Aside0.mk e1
            have z0 : (0 ≤ j) = True := eq_true j0
            have z1 : (j < ((v.length + 1 : Nat) : Int)) = True := eq_true (by omega)
            have z2 : (j < (v.length : Int) + 1) = True := eq_true cj'
            have hg5 : wr.cell? ⟨g, 5, none⟩ = some (.slice (some ⟨gr, 0, none⟩) (v.length + 1) (v.length + 1)) := (blk_cell hgb 5).trans rfl
            have hp0 : wr.cell? ⟨w.heap.size, 0, none⟩ = some (.slice A0 v.length c0) := (blk_cell hpb 0).trans rfl
            have hp2 : wr.cell? ⟨w.heap.size, 2, none⟩ = some (.slice A2 fx.length c2) := (blk_cell hpb 2).trans rfl
            have HGB := Aside0.mk hgb
            have HBEL := Aside0.mk (below_drew hbel)
            have HCALL := Aside0.mk (hcall wr.drew (below_drew hbel))
            have HFC := Aside0.mk (fill_cell (tabHi v fx) hj1)
            have HJ0 := Aside0.mk j0
            have HWJ := Aside0.mk (show wrap64 (j + 1) = j + 1 by have h3 := HP.out.vars; unfold wrap64; omega)
            clear cj cj' j0 hjn hlt hne hgb hpb hbel hks hcall hj1 e1
            go_wp2_with fail
            go_region_with (go_at_call 25; (with_reducible refine HCALL.out.mono ?_); rintro e wy ⟨rfl, hb⟩; have HBY := Aside0.mk hb; have hg5' : wy.cell? ⟨g, 5, none⟩ = some (.slice (some ⟨gr, 0, none⟩) (v.length + 1) (v.length + 1)) := (blk_cell (blk_below (blk_drew HGB.out) hb) 5).trans rfl; have hgr : wy.cell? ⟨gr, j.toNat, none⟩ = some (.int .i64 0) := (blk_cell (blk_below (blk_drew HT.out) hb) j.toNat).trans HFC.out; have hgf := blk_frozen (blk_below (blk_drew HT.out) hb) j.toNat; clear hb)
            all_goals
              go_wp2
              go_roundg kk
              case measure => omega
              case rel =>
                refine ⟨j + 1, by first | rfl | (simp [HWJ.out]; done), ⟨by have h1 := HJ.out; have h2 := HJ0.out; omega⟩, ⟨?_⟩, ⟨?_⟩⟩
                · exact (HKJ.out.trans ((But.of_below (below_drew (Below.refl _ _))).trans (But.of_below HBY.out))).set (p := ⟨gr, j.toNat, none⟩) rfl _
                · rw [show (j + 1).toNat = j.toNat + 1 by have := HJ0.out; omega]
                  exact blk_put (blk_below (blk_drew HT.out) HBY.out) j.toNat _ E1.out
          · have cjb : decide (j < wrap64 ((v.length : Int) + 1)) = false := decide_eq_false cj
            rw [HW1.out] at cj
            have hjf : j.toNat = (tabHi v fx).length := by have h1 := HJ.out; rw [tabHi_length]; omega
            have ht := HT.out
            rw [hjf, fill_all] at ht
            have hfin := Mid.ready HP.out HM4.out HKJ.out ht HV.out HR.out HF.out
            have HFIN := Aside0.mk hfin
            clear cj hjf ht hfin HT
            go_wp2
            go_ret
            obtain ⟨Al, Ah, Ar, cl, ch, cr, h⟩ := HFIN.out
            exact ⟨g, gs, gx, Al, Ah, Ar, cl, ch, cr, rfl, h⟩
end Go.Proofs.Ythicnegcpafkkaa.Search
