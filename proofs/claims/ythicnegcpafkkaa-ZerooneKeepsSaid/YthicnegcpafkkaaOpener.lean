/- What came in is read as the print's kinds tell it: for each type that the program's data are made of, a row's datum gives the kind's fact. No condition beyond those that the lemmas name. -/
import Derived.Test.YthicnegcpafkkaaWWords
import Derived.OpenShut
import Derived.Deep.Slices
import Derived.ChangeArms
import Derived.SizedLaws
import Derived.WideShapes
import Derived.ChangeOld
import Derived.Carry
import Derived.Lib.SmallJoins
set_option linter.unusedVariables false
namespace Go.Proofs.Ythicnegcpafkkaa.Opener
open Go.ChangeShapes Go.WideShapes Go.RowKit Go.Proofs.YthicnegcpafkkaaW.PrintWords

/-- Whatever reads as type t is of kind d, and fits 'ok'. -/
def Opens (P : Program) (t : TypeId) {α : Type} (d : Kd α) (ok : α → Prop) : Prop :=
  ∀ (H : Type) (enc : TypeId × Value → H) (W : World) (base : Nat) (spare : Nat → Bool) (held : Bool) (fuel : Nat) (cs : List Value) (x : DataW H × List MemPlace),
    DataW.trod enc P W base spare held fuel t cs = some x → (∀ n ∈ x.1.weights P t, n ≤ 140737488351232) → ∃ a, d.K W a cs ∧ ok a
def IntOk (n : Int) : Prop := -9223372036854775808 ≤ n ∧ n ≤ 9223372036854775807
theorem opens_int {P : Program} {t : TypeId} (ht : P.underlying t = some (.int .i64)) : Opens P t (Kd.int .i64) IntOk := by
  intro H enc W base spare held fuel cs x h _
  obtain ⟨n, rfl, rfl, hw⟩ := DataW.trod_int ht h
  exact ⟨n, rfl, bounds_i64 hw⟩
theorem opens_string {P : Program} {t : TypeId} (ht : P.underlying t = some .string) : Opens P t Kd.string (fun s => s.size ≤ 140737488351232) := by
  intro H enc W base spare held fuel cs x h hz
  obtain ⟨s, rfl, rfl, _⟩ := DataW.trod_string ht h
  refine ⟨s, rfl, ?_⟩
  have := hz s.data.toList.length (by simp [DataW.weights])
  simpa using this
theorem mem_weightsAll {H : Type} {P : Program} {e : TypeId} {d : DataW H} : ∀ {l : List (DataW H)}, d ∈ l → ∀ n ∈ d.weights P e, n ∈ DataW.weightsAll P e l
  | d0 :: l, hd, n, hn => by
    simp only [DataW.weightsAll, List.mem_append]
    rcases List.mem_cons.1 hd with rfl | hd
    · exact .inl hn
    · exact .inr (mem_weightsAll hd n hn)
theorem choose_list {α : Type} {p : Nat → α → Prop} : ∀ (n : Nat), (∀ i, i < n → ∃ a, p i a) → ∃ xs : List α, xs.length = n ∧ ∀ i a, xs[i]? = some a → p i a
  | 0, _ => ⟨[], rfl, fun i a h => by simp at h⟩
  | n + 1, h => by
    obtain ⟨xs, hl, hx⟩ := choose_list n (fun i hi => h i (by omega))
    obtain ⟨a, ha⟩ := h n (by omega)
    refine ⟨xs ++ [a], by simp [hl], fun i b hb => ?_⟩
    rcases Nat.lt_or_ge i xs.length with hi | hi
    · rw [List.getElem?_append_left hi] at hb
      exact hx i b hb
    · rw [List.getElem?_append_right hi] at hb
      have h0 : i - xs.length = 0 := by
        rcases Nat.eq_zero_or_pos (i - xs.length) with h0 | h0
        · exact h0
        · rw [List.getElem?_eq_none (by simp; omega)] at hb; cases hb
      rw [h0] at hb
      simp at hb
      subst hb
      rw [show i = n by omega]
      exact ha
def RowOk {α : Type} (B : Nat) (ok : α → Prop) (xs : List α) : Prop := xs.length * B ≤ 140737488351232 ∧ ∀ x ∈ xs, ok x
theorem opens_slice {P : Program} {t e : TypeId} {α : Type} {d : Kd α} {ok : α → Prop} {B : Nat} (ht : P.underlying t = some (.slice e)) (hc : P.cellsOf e = d.sz) (hB : P.bytesOf e = B) (ho : Opens P e d ok) :
    Opens P t (Kd.slice e d) (RowOk B ok) := by
  intro H enc W base spare held fuel cs x h hz
  rcases Go.Deep.open_slice ht h with ⟨rfl, rfl⟩ | ⟨a, len, cap, m, n, D, Pl, rfl, hb, hl, hm, hmm, rfl, hx⟩
  · exact ⟨[], ⟨none, 0, rfl, Nat.le_refl _, rfl, by simp, fun h0 => absurd h0 (by simp)⟩, by simp [RowOk]⟩
  have hlm : len ≤ m := by rw [hmm]; split <;> omega
  have hw : ∀ i, i < len → ∀ q ∈ (D i).weights P e, q ≤ 140737488351232 := by
    intro i hi q hq
    refine hz q ?_
    simp only [DataW.weights, ht, List.mem_cons, List.mem_append]
    exact .inr (.inl (mem_weightsAll (List.mem_map.2 ⟨i, by simpa using hi, rfl⟩) q hq))
  obtain ⟨xs, hxl, hxs⟩ := choose_list (p := fun i a' => ok a' ∧ ∃ c, c.length = d.sz ∧ d.K W a' c ∧ W.cells? base (a.add (i * d.sz)) d.sz = some c) len (fun i hi => by
    obtain ⟨cs', h1, h2⟩ := hx i (by omega)
    rw [hc] at h1
    obtain ⟨a', hk, hok⟩ := ho H enc W base spare held n cs' _ h2 (hw i hi)
    exact ⟨a', hok, cs', (World.cells?_some h1).2.1, hk, h1⟩)
  refine ⟨xs, ⟨some a, cap, by rw [hxl], by omega, ?_⟩, ?_, ?_⟩
  · refine ⟨rfl, by unfold maxLen at hm; omega, fun _ => ⟨a, rfl, fun j p hj => ?_⟩⟩
    obtain ⟨_, c, hcl, hk, hcs⟩ := hxs j p hj
    refine ⟨c, hcl, hk, fun i u hu => ?_⟩
    have hi : i < d.sz := by
      rcases Nat.lt_or_ge i c.length with hi | hi
      · omega
      · rw [List.getElem?_eq_none hi] at hu; cases hu
    have h3 := (World.cells?_some hcs).2.2 i hi
    rw [Go.Deep.add_add] at h3
    rw [h3]
    exact hu
  · have h1 := hz ((len + (m - len)) * P.bytesOf e) (by simp [DataW.weights, ht])
    rw [hB] at h1
    refine Nat.le_trans (Nat.mul_le_mul_right _ ?_) h1
    omega
  · intro z hz
    obtain ⟨i, hi⟩ := List.getElem?_of_mem hz
    exact (hxs i z hi).1
/-- The fields from offset 'off' on. -/
def OpensF (P : Program) (fs : List Field) (off : Nat) {α : Type} (d : Kd α) (ok : α → Prop) : Prop :=
  ∀ (H : Type) (enc : TypeId × Value → H) (W : World) (base : Nat) (spare : Nat → Bool) (held : Bool) (n : Nat) (cs : List Value) (xs : List (DataW H × List MemPlace)), cs.length = off + d.sz → xs.length = fs.length →
    (∀ (i : Nat) (f : Field), fs[i]? = some f → DataW.trod enc P W base spare held n f.type ((cs.drop f.offset).take (P.cellsOf f.type)) = xs[i]?) →
    (∀ q ∈ DataW.weightsEach P (fs.map (·.type)) (xs.map (·.1)), q ≤ 140737488351232) → ∃ a, d.K W a (cs.drop off) ∧ ok a
theorem opensF_one {P : Program} {f : Field} {off : Nat} {α : Type} {d : Kd α} {ok : α → Prop} (hof : f.offset = off) (hc : P.cellsOf f.type = d.sz) (ho : Opens P f.type d ok) : OpensF P [f] off d ok := by
  intro H enc W base spare held n cs xs hl hxl hx hz
  match xs, hxl with
  | [x], _ =>
    have h := hx 0 f rfl
    rw [hof, hc, List.take_of_length_le (by rw [List.length_drop]; omega)] at h
    exact ho H enc W base spare held n _ x h (fun q hq => hz q (by simp only [List.map_cons, List.map_nil, DataW.weightsEach, List.mem_append]; exact .inl hq))
theorem opensF_cons {P : Program} {f : Field} {fs : List Field} {off : Nat} {α β : Type} {d : Kd α} {d' : Kd β} {ok : α → Prop} {ok' : β → Prop} (hof : f.offset = off) (hc : P.cellsOf f.type = d.sz) (ho : Opens P f.type d ok)
    (hos : OpensF P fs (off + d.sz) d' ok') : OpensF P (f :: fs) off (Kd.pair d d') (fun x => ok x.1 ∧ ok' x.2) := by
  intro H enc W base spare held n cs xs hl hxl hx hz
  match xs, hxl with
  | x :: xs, hxl =>
    have h := hx 0 f rfl
    rw [hof, hc] at h
    obtain ⟨a, hk, hok⟩ := ho H enc W base spare held n _ x h (fun q hq => hz q (by simp only [List.map_cons, DataW.weightsEach, List.mem_append]; exact .inl hq))
    obtain ⟨b, hk', hok'⟩ := hos H enc W base spare held n cs xs (by rw [hl]; show off + (d.sz + d'.sz) = _; omega) (by simpa using hxl) (fun i g hg => hx (i + 1) g (by simpa using hg))
      (fun q hq => hz q (by simp only [List.map_cons, DataW.weightsEach, List.mem_append]; exact .inr hq))
    refine ⟨(a, b), ⟨_, _, ?_, hk, hk'⟩, hok, hok'⟩
    rw [← List.drop_drop]
    exact (List.take_append_drop _ _).symm
theorem opens_struct {P : Program} {t : TypeId} {fs : Array Field} {α β : Type} {d : Kd α} {ok : α → Prop} (f : β → α) (g : α → β) (hg : ∀ a, f (g a) = a) (ht : P.underlying t = some (.struct fs)) (hc : P.cellsOf t = d.sz)
    (ho : OpensF P fs.toList 0 d ok) : Opens P t (Kd.iso d f) (fun x => ok (f x)) := by
  intro H enc W base spare held fuel cs x h hz
  obtain ⟨xs, n, rfl, rfl, hl, hlen, hf⟩ := DataW.trod_struct ht h
  obtain ⟨a, hk, hok⟩ := ho H enc W base spare held n cs xs (by rw [hl, hc]; omega) (by simpa using hlen) (fun i f' hf' => hf i f' (by simpa using hf')) (fun q hq => hz q (by simp only [DataW.weights, ht]; exact hq))
  refine ⟨g a, ?_, by show ok (f (g a)); rw [hg]; exact hok⟩
  show d.K W (f (g a)) cs
  rw [hg]
  exact hk

/-- An argument, opened. -/
theorem Opens.arg {P : Program} {t : TypeId} {α : Type} {d : Kd α} {ok : α → Prop} (ho : Opens P t d ok) {H : Type} {enc : TypeId × Value → H} {W : World} {base : Nat} {spare : Nat → Bool} {held : Bool} {ts : List TypeId} {ds : List (DataW H)} {v : Value} {x : DataW H} {ps : List MemPlace}
    (hsz : (DataW.weightsEach P ts ds).all (· ≤ reachBytes) = true) {j : Nat} (htj : ts[j]? = some t) (hdj : ds[j]? = some x) (h : DataW.Trod enc P W base spare held t v x ps) : ∃ a, d.K W a v.cells.toList ∧ ok a := by
  obtain ⟨fuel, hf⟩ := h
  refine ho H enc W base spare held fuel _ _ hf (fun n hn => ?_)
  have h1 := List.all_eq_true.1 hsz n (DataW.weights_mem_each htj hdj n hn)
  exact of_decide_eq_true h1
theorem Opens.places {H : Type} {enc : TypeId × Value → H} {P : Program} {W : World} {base : Nat} {spare : Nat → Bool} {held : Bool} {t : TypeId} {v : Value} {x : DataW H} {ps : List MemPlace} (h : DataW.Trod enc P W base spare held t v x ps) : ∀ p ∈ ps, p.block < W.heap.size := by
  obtain ⟨m, hm⟩ := h
  exact DataW.trod_lt m _ _ _ hm
end Go.Proofs.Ythicnegcpafkkaa.Opener
