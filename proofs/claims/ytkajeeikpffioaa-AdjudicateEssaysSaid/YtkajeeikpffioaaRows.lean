/-
  No cell of these rows narrows 'for every input' (looked for: loops, veiled, ifaces, maps, wideKeys, modest, calm, conditions, laid).
  DERIVED. THE GIVEN ROWS OF THIS SEAT. 5 by the template 'for every input the law returns true; each argument reads behind the call as it read before'; 0 by the template 'total and deterministic' (their statements: YtkajeeikpffioaaTotals.lean).
  GIVEN WITH THE SEED: the statements are not yours to turn. If you find one false, say at which input.
  Laid BY PROGRAM, IN A SANDBOX (cutbox-rows.mjs): the forced cells as the released guide's own fill.sh prints them over the translation 41e6228a11b1f15b… (all of the seat's roots in one cut). By AI agents, Wed Nov 11 2026. No macro, syntax, notation, axiom, sorry.
-/
import Derived.Test.YtkajeeikpffioaaChecked
import GoSem.Claim
import GoSem.ClaimJoined
import GoSem.ClaimMapViews
import Derived.JoinedTies
import Derived.KernelRfl
namespace Go.Proofs.Ytkajeeikpffioaa
/- THE CELL 'sum', in the pinned program and in every row, IS THE sha256 OF THE DUMP (.gsa) THAT YtkajeeikpffioaaProg.lean LOADS. Nothing in Lean hashes anything: it is a label: what it is worth is what the hold of that sum in a sandbox is worth. -/
noncomputable def Try.pinned : Pinned := { name := "ytkajeeikpffioaa", sum := "41e6228a11b1f15ba5c8076d7458f0e9b219905ea142cde4fda330e7f5573c7b", checked := Try.checked }
namespace Rows
def none {H : Type} : Left H := { results := [], args := [] }

/-- 'examboardlaw43.AdjudicateOthers': WHATEVER THE INPUT: true; the input reads as it did. -/
def adjudicateOthersSpec : ChangeSpec := { name := "adjudicateOthers", fn := fun _ => fun
  | [d1, d2, d3, d4] => { results := [.lit (.bool true)], args := [d1, d2, d3, d4] }
  | _ => none }
def adjudicateOthersRow : OpenClaim := { program := "ytkajeeikpffioaa", sum := "41e6228a11b1f15ba5c8076d7458f0e9b219905ea142cde4fda330e7f5573c7b", func := "examboard/examboardlaw43.AdjudicateOthers", spec := "adjudicateOthers", unfollowed := true, recurses := true, apart := false }
def AdjudicateOthersSaid : Prop := adjudicateOthersRow.holds Try.pinned (OpenSpec.ofChange adjudicateOthersSpec)

/-- ITS FALSE NEIGHBOUR: 'it returns false'. Refute it at one input. -/
def adjudicateOthersWrong : ChangeSpec := { name := "adjudicateOthers", fn := fun _ => fun
  | [d1, d2, d3, d4] => { results := [.lit (.bool false)], args := [d1, d2, d3, d4] }
  | _ => none }
def AdjudicateOthersWrongFalsely : Prop := adjudicateOthersRow.holds Try.pinned (OpenSpec.ofChange adjudicateOthersWrong)

/-- 'examboardlaw43.AdjudicateAgree': WHATEVER THE INPUT: true; the input reads as it did. -/
def adjudicateAgreeSpec : ChangeSpec := { name := "adjudicateAgree", fn := fun _ => fun
  | [d1, d2, d3] => { results := [.lit (.bool true)], args := [d1, d2, d3] }
  | _ => none }
def adjudicateAgreeRow : OpenClaim := { program := "ytkajeeikpffioaa", sum := "41e6228a11b1f15ba5c8076d7458f0e9b219905ea142cde4fda330e7f5573c7b", func := "examboard/examboardlaw43.AdjudicateAgree", spec := "adjudicateAgree", unfollowed := true, recurses := true, apart := false }
def AdjudicateAgreeSaid : Prop := adjudicateAgreeRow.holds Try.pinned (OpenSpec.ofChange adjudicateAgreeSpec)

/-- ITS FALSE NEIGHBOUR: 'it returns false'. Refute it at one input. -/
def adjudicateAgreeWrong : ChangeSpec := { name := "adjudicateAgree", fn := fun _ => fun
  | [d1, d2, d3] => { results := [.lit (.bool false)], args := [d1, d2, d3] }
  | _ => none }
def AdjudicateAgreeWrongFalsely : Prop := adjudicateAgreeRow.holds Try.pinned (OpenSpec.ofChange adjudicateAgreeWrong)

/-- 'examboardlaw43.AdjudicateScores': WHATEVER THE INPUT: true; the input reads as it did. -/
def adjudicateScoresSpec : ChangeSpec := { name := "adjudicateScores", fn := fun _ => fun
  | [d1, d2, d3] => { results := [.lit (.bool true)], args := [d1, d2, d3] }
  | _ => none }
def adjudicateScoresRow : OpenClaim := { program := "ytkajeeikpffioaa", sum := "41e6228a11b1f15ba5c8076d7458f0e9b219905ea142cde4fda330e7f5573c7b", func := "examboard/examboardlaw43.AdjudicateScores", spec := "adjudicateScores", unfollowed := true, recurses := true, apart := false }
def AdjudicateScoresSaid : Prop := adjudicateScoresRow.holds Try.pinned (OpenSpec.ofChange adjudicateScoresSpec)

/-- ITS FALSE NEIGHBOUR: 'it returns false'. Refute it at one input. -/
def adjudicateScoresWrong : ChangeSpec := { name := "adjudicateScores", fn := fun _ => fun
  | [d1, d2, d3] => { results := [.lit (.bool false)], args := [d1, d2, d3] }
  | _ => none }
def AdjudicateScoresWrongFalsely : Prop := adjudicateScoresRow.holds Try.pinned (OpenSpec.ofChange adjudicateScoresWrong)

/-- 'examboardlaw43.AdjudicateGaps': WHATEVER THE INPUT: true; the input reads as it did. -/
def adjudicateGapsSpec : ChangeSpec := { name := "adjudicateGaps", fn := fun _ => fun
  | [d1, d2, d3, d4, d5] => { results := [.lit (.bool true)], args := [d1, d2, d3, d4, d5] }
  | _ => none }
def adjudicateGapsRow : OpenClaim := { program := "ytkajeeikpffioaa", sum := "41e6228a11b1f15ba5c8076d7458f0e9b219905ea142cde4fda330e7f5573c7b", func := "examboard/examboardlaw43.AdjudicateGaps", spec := "adjudicateGaps", unfollowed := true, recurses := true, apart := false }
def AdjudicateGapsSaid : Prop := adjudicateGapsRow.holds Try.pinned (OpenSpec.ofChange adjudicateGapsSpec)

/-- ITS FALSE NEIGHBOUR: 'it returns false'. Refute it at one input. -/
def adjudicateGapsWrong : ChangeSpec := { name := "adjudicateGaps", fn := fun _ => fun
  | [d1, d2, d3, d4, d5] => { results := [.lit (.bool false)], args := [d1, d2, d3, d4, d5] }
  | _ => none }
def AdjudicateGapsWrongFalsely : Prop := adjudicateGapsRow.holds Try.pinned (OpenSpec.ofChange adjudicateGapsWrong)

/-- 'examboardlaw43.AdjudicateEssays': WHATEVER THE INPUT: true; the input reads as it did. -/
def adjudicateEssaysSpec : ChangeSpec := { name := "adjudicateEssays", fn := fun _ => fun
  | [d1, d2, d3, d4] => { results := [.lit (.bool true)], args := [d1, d2, d3, d4] }
  | _ => none }
def adjudicateEssaysRow : OpenClaim := { program := "ytkajeeikpffioaa", sum := "41e6228a11b1f15ba5c8076d7458f0e9b219905ea142cde4fda330e7f5573c7b", func := "examboard/examboardlaw43.AdjudicateEssays", spec := "adjudicateEssays", unfollowed := true, recurses := true, apart := false }
def AdjudicateEssaysSaid : Prop := adjudicateEssaysRow.holds Try.pinned (OpenSpec.ofChange adjudicateEssaysSpec)

/-- ITS FALSE NEIGHBOUR: 'it returns false'. Refute it at one input. -/
def adjudicateEssaysWrong : ChangeSpec := { name := "adjudicateEssays", fn := fun _ => fun
  | [d1, d2, d3, d4] => { results := [.lit (.bool false)], args := [d1, d2, d3, d4] }
  | _ => none }
def AdjudicateEssaysWrongFalsely : Prop := adjudicateEssaysRow.holds Try.pinned (OpenSpec.ofChange adjudicateEssaysWrong)

/- THE SECOND FORM. 'bulk': how many values and letters a reading holds, each counted each time it is reached (what is shared counts as often as it is met; a slice's spare places count too). A statement '..UptoSaid' is the law's where the arguments, and the package variables that the reading takes, are together of bulk at most 1048576: NARROWER than '..Said'. Prove '..Said' where nothing that the law and all that it calls make is longer than what came in: it says more and counts as full. Else prove '..UptoSaid'. A law counts once. -/
mutual
def uptoBulk {H : Type} : DataW H → Nat
  | .lit (.string bytes) => bytes.length + 1
  | .lit _ => 1
  | .nil => 1
  | .ptr d => uptoBulk d + 1
  | .slice elems spare => uptoBulkAll elems + uptoBulkAll spare + 1
  | .agg parts => uptoBulkAll parts + 1
  | .iface _ d => uptoBulk d + 1
  | .map entries => uptoBulkEntries entries + 1
  | .held _ => 1
def uptoBulkAll {H : Type} : List (DataW H) → Nat
  | [] => 0
  | d :: r => uptoBulk d + uptoBulkAll r
def uptoBulkEntries {H : Type} : List (Lit × DataW H) → Nat
  | [] => 0
  | x :: r => uptoBulkEntry x + uptoBulkEntries r
def uptoBulkEntry {H : Type} : Lit × DataW H → Nat
  | (.string bytes, d) => bytes.length + uptoBulk d + 1
  | (_, d) => uptoBulk d + 1
 end
def uptoSmall : (H : Type) → List (DataW H) → Bool := fun _ ds => decide (uptoBulkAll ds ≤ 1048576)
def OpenSpec.upto (s : _root_.Go.ChangeSpec) : _root_.Go.OpenSpec := { _root_.Go.OpenSpec.ofChange s with cond := some uptoSmall }

/-- 'examboardlaw43.AdjudicateOthers', WHERE WHAT IT READS IS OF BULK AT MOST 1048576: true; the input reads as it did. -/
def adjudicateOthersUptoRow : OpenClaim := { program := "ytkajeeikpffioaa", sum := "41e6228a11b1f15ba5c8076d7458f0e9b219905ea142cde4fda330e7f5573c7b", func := "examboard/examboardlaw43.AdjudicateOthers", spec := "adjudicateOthers", unfollowed := true, recurses := true, apart := false, narrowed := true }
def AdjudicateOthersUptoSaid : Prop := adjudicateOthersUptoRow.holds Try.pinned (OpenSpec.upto adjudicateOthersSpec)

/-- 'examboardlaw43.AdjudicateAgree', WHERE WHAT IT READS IS OF BULK AT MOST 1048576: true; the input reads as it did. -/
def adjudicateAgreeUptoRow : OpenClaim := { program := "ytkajeeikpffioaa", sum := "41e6228a11b1f15ba5c8076d7458f0e9b219905ea142cde4fda330e7f5573c7b", func := "examboard/examboardlaw43.AdjudicateAgree", spec := "adjudicateAgree", unfollowed := true, recurses := true, apart := false, narrowed := true }
def AdjudicateAgreeUptoSaid : Prop := adjudicateAgreeUptoRow.holds Try.pinned (OpenSpec.upto adjudicateAgreeSpec)

/-- 'examboardlaw43.AdjudicateScores', WHERE WHAT IT READS IS OF BULK AT MOST 1048576: true; the input reads as it did. -/
def adjudicateScoresUptoRow : OpenClaim := { program := "ytkajeeikpffioaa", sum := "41e6228a11b1f15ba5c8076d7458f0e9b219905ea142cde4fda330e7f5573c7b", func := "examboard/examboardlaw43.AdjudicateScores", spec := "adjudicateScores", unfollowed := true, recurses := true, apart := false, narrowed := true }
def AdjudicateScoresUptoSaid : Prop := adjudicateScoresUptoRow.holds Try.pinned (OpenSpec.upto adjudicateScoresSpec)

/-- 'examboardlaw43.AdjudicateGaps', WHERE WHAT IT READS IS OF BULK AT MOST 1048576: true; the input reads as it did. -/
def adjudicateGapsUptoRow : OpenClaim := { program := "ytkajeeikpffioaa", sum := "41e6228a11b1f15ba5c8076d7458f0e9b219905ea142cde4fda330e7f5573c7b", func := "examboard/examboardlaw43.AdjudicateGaps", spec := "adjudicateGaps", unfollowed := true, recurses := true, apart := false, narrowed := true }
def AdjudicateGapsUptoSaid : Prop := adjudicateGapsUptoRow.holds Try.pinned (OpenSpec.upto adjudicateGapsSpec)

/-- 'examboardlaw43.AdjudicateEssays', WHERE WHAT IT READS IS OF BULK AT MOST 1048576: true; the input reads as it did. -/
def adjudicateEssaysUptoRow : OpenClaim := { program := "ytkajeeikpffioaa", sum := "41e6228a11b1f15ba5c8076d7458f0e9b219905ea142cde4fda330e7f5573c7b", func := "examboard/examboardlaw43.AdjudicateEssays", spec := "adjudicateEssays", unfollowed := true, recurses := true, apart := false, narrowed := true }
def AdjudicateEssaysUptoSaid : Prop := adjudicateEssaysUptoRow.holds Try.pinned (OpenSpec.upto adjudicateEssaysSpec)

end Rows
end Go.Proofs.Ytkajeeikpffioaa
