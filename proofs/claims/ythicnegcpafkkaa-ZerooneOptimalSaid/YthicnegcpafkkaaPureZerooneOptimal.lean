/- The solution is feasible, none has a greater value, and of equally good ones it is the lexicographically greatest: the plain statement. -/
import Derived.Test.YthicnegcpafkkaaAllx44
import Derived.Test.YthicnegcpafkkaaScan
set_option linter.unusedVariables false
namespace Go.Proofs.Ythicnegcpafkkaa.Pure
open Go.RowKit Go.Proofs.YthicnegcpafkkaaW.PrintWords Go.Proofs.Ythicnegcpafkkaa.All Go.Proofs.Ythicnegcpafkkaa.Opener Go.Proofs.Ythicnegcpafkkaa.Spec Go.Proofs.Ythicnegcpafkkaa.Search
def bl : Best → List Int
  | none => []
  | some p => p.1
def bt : Best → Int
  | none => 0
  | some p => p.2
theorem optimal_l0 {v : List Int} {rs : List S45} {fx : List Int} (h : ValidP v rs fx) (hcs : ∀ r ∈ rs, r.f0.length < 9223372036854775807) (hn : v.length ≤ 8) (x : List Int) (val e : Int) (q : Bool) :
    ∀ (k : Nat) (b : Best), k ≤ 2 ^ v.length → (∀ b', b' = scan (feasP rs fx) (dotS v) (bitsOf v.length) 0 k b → Ev (fun K => examboardlaw34_ZerooneOptimal.l0 K (v.length : Int) x val e (bl b') (bt b') b'.isSome (-1) v rs fx) q) →
      Ev (fun K => examboardlaw34_ZerooneOptimal.l0 K (v.length : Int) x val e (bl b) (bt b) b.isSome ((k : Int) - 1) v rs fx) q
  | 0, b, _, hq => hq b rfl
  | k + 1, b, hk, hq => by
    have e0 : (((k + 1 : Nat) : Int) - 1) = ((k : Nat) : Int) := by omega
    have e1 : wrap64 ((k : Int) - 1) = (k : Int) - 1 := by
      have : 2 ^ v.length ≤ 2 ^ 8 := Nat.pow_le_pow_right (by decide) hn
      exact wrap_in (by omega) (by omega)
    have hb := bitsOf_bits v.length k
    have hl := bitsOf_length v.length k
    have hfe := feasible_ev v rs fx (bitsOf v.length k) hcs (by rw [hl]; have := h.vars; omega)
    rw [feas_valid h hb hl] at hfe
    have hva := value_ev v rs fx (bitsOf v.length k) hcs (by rw [hl]; have := h.vars; omega)
    have hvs : valueS v rs fx (bitsOf v.length k) = (dotS v (bitsOf v.length k), 0) := by
      unfold valueS bitsS
      rw [if_pos ((validS_iff v rs fx).2 h), if_pos (by rw [hb, hl]; simp)]
    rw [hvs] at hva
    have ih := optimal_l0 h hcs hn x val e q k (stepB (feasP rs fx) (dotS v) b (bitsOf v.length k)) (by omega) (fun b' hb' => hq b' (by rw [hb']; show _ = scan _ _ _ 0 k _; rw [Nat.zero_add]))
    rw [e0]
    refine Ev.up ?_
    simp only [examboardlaw34_ZerooneOptimal.l0]
    refine Ev.iteP (by omega) (Ev.bind (assign_ev k v.length (by omega) hn) (Ev.bind hfe ?_))
    rw [e1]
    cases hf : feasP rs fx (bitsOf v.length k) with
    | false =>
      have es : stepB (feasP rs fx) (dotS v) b (bitsOf v.length k) = b := by unfold stepB; rw [hf]; rfl
      rw [es] at ih
      exact Ev.iteN (by decide) ih
    | true =>
      refine Ev.iteP rfl (Ev.bind hva (Ev.iteP rfl ?_))
      cases b with
      | none =>
        have es : stepB (feasP rs fx) (dotS v) none (bitsOf v.length k) = some (bitsOf v.length k, dotS v (bitsOf v.length k)) := by unfold stepB; rw [hf]; rfl
        rw [es] at ih
        exact Ev.iteN (by decide) ih
      | some p =>
        refine Ev.iteP rfl ?_
        by_cases hg : dotS v (bitsOf v.length k) > p.2
        · have es : stepB (feasP rs fx) (dotS v) (some p) (bitsOf v.length k) = some (bitsOf v.length k, dotS v (bitsOf v.length k)) := by unfold stepB better; rw [hf]; simp only [Bool.true_and]; rw [if_pos (decide_eq_true hg)]
          rw [es] at ih
          exact Ev.iteP hg ih
        · have es : stepB (feasP rs fx) (dotS v) (some p) (bitsOf v.length k) = some p := by unfold stepB better; rw [hf]; simp only [Bool.true_and]; rw [if_neg (by simpa using hg)]
          rw [es] at ih
          exact Ev.iteN hg ih
theorem ZerooneOptimal (v : List Int) (rs : List S45) (fx : List Int) (h : ProblemFits (v, rs, fx)) : ∃ k, examboardlaw34_ZerooneOptimal.f k v rs fx = some true := by
  have hcs := coefs_fit h.2.1
  refine Ev.rounds (g := fun k => examboardlaw34_ZerooneOptimal.f k v rs fx) ?_
  unfold examboardlaw34_ZerooneOptimal.f
  by_cases hn : (v.length : Int) > 8
  · exact Ev.iteP hn (Ev.now _)
  · have hn8 : v.length ≤ 8 := by omega
    have hs : zeroone_Solve.f v rs fx = some (solveS v rs fx) := solveF_some hcs
    refine Ev.iteN hn (Ev.bindS hs (Ev.bind (valid_ev v rs fx hcs) ?_))
    by_cases hv : validS v rs fx = 0
    · have hP := (validS_iff v rs fx).1 hv
      obtain ⟨s1, s2⟩ := shl_at hn8
      rw [solve_valid hP, s2]
      refine Ev.iteP hv (Ev.iteP s1 ?_)
      have hend := scan_all (F := feasP rs fx) (val := dotS v) v.length
      refine optimal_l0 hP hcs hn8 (bestS (topS v rs fx)).1 (bestS (topS v rs fx)).2.1 (bestS (topS v rs fx)).2.2 true (2 ^ v.length) none (Nat.le_refl _) (fun b' hb' => ?_)
      have hb2 : b' = topS v rs fx := hb'.trans hend
      rw [hb2]
      refine Ev.up ?_
      simp only [examboardlaw34_ZerooneOptimal.l0]
      refine Ev.iteN (by omega) ?_
      cases hp : topS v rs fx with
      | none => exact Ev.iteN (by decide) (Ev.iteP rfl (Ev.iteP rfl (Ev.now _)))
      | some p =>
        obtain ⟨a1, a2, a3, a4⟩ := top_some hp
        refine Ev.iteP rfl (Ev.iteP rfl (Ev.iteP rfl (Ev.bind (ints_self p.1 (by omega)) (Ev.now _))))
    · rw [solve_bad hv]
      exact Ev.iteN hv (Ev.iteP rfl (Ev.iteP rfl (Ev.now _)))
end Go.Proofs.Ythicnegcpafkkaa.Pure
