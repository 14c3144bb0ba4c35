/-
  No cell of these rows narrows 'for every input' (looked for: loops, veiled, ifaces, maps, wideKeys, modest, calm, conditions, laid).
  DERIVED. THE GIVEN ROWS OF THIS SEAT. 7 by the template 'for every input the law returns true; each argument reads behind the call as it read before'; 0 by the template 'total and deterministic' (their statements: YtficdonjodadlaaTotals.lean).
  GIVEN WITH THE SEED: the statements are not yours to turn. If you find one false, say at which input.
  Laid BY PROGRAM, IN A SANDBOX (cutbox-rows.mjs): the forced cells as the released guide's own fill.sh prints them over the translation 1bedb52f5f24af61… (all of the seat's roots in one cut). By AI agents, Wed Nov 11 2026. No macro, syntax, notation, axiom, sorry.
-/
import Derived.Test.YtficdonjodadlaaChecked
import GoSem.Claim
import GoSem.ClaimJoined
import GoSem.ClaimMapViews
import Derived.JoinedTies
import Derived.KernelRfl
namespace Go.Proofs.Ytficdonjodadlaa
/- THE CELL 'sum', in the pinned program and in every row, IS THE sha256 OF THE DUMP (.gsa) THAT YtficdonjodadlaaProg.lean LOADS. Nothing in Lean hashes anything: it is a label: what it is worth is what the hold of that sum in a sandbox is worth. -/
noncomputable def Try.pinned : Pinned := { name := "ytficdonjodadlaa", sum := "1bedb52f5f24af61759b8025d4393ded5247d5168eaacc7c840a5aaed77355bb", checked := Try.checked }
namespace Rows
def none {H : Type} : Left H := { results := [], args := [] }

/-- 'petrinetlaw26.BranchingChecks': WHATEVER THE INPUT: true; the input reads as it did. -/
def branchingChecksSpec : ChangeSpec := { name := "branchingChecks", fn := fun _ => fun
  | [d1, d2] => { results := [.lit (.bool true)], args := [d1, d2] }
  | _ => none }
def branchingChecksRow : OpenClaim := { program := "ytficdonjodadlaa", sum := "1bedb52f5f24af61759b8025d4393ded5247d5168eaacc7c840a5aaed77355bb", func := "petrinet/petrinetlaw26.BranchingChecks", spec := "branchingChecks", unfollowed := true, recurses := true, apart := false }
def BranchingChecksSaid : Prop := branchingChecksRow.holds Try.pinned (OpenSpec.ofChange branchingChecksSpec)

/-- ITS FALSE NEIGHBOUR: 'it returns false'. Refute it at one input. -/
def branchingChecksWrong : ChangeSpec := { name := "branchingChecks", fn := fun _ => fun
  | [d1, d2] => { results := [.lit (.bool false)], args := [d1, d2] }
  | _ => none }
def BranchingChecksWrongFalsely : Prop := branchingChecksRow.holds Try.pinned (OpenSpec.ofChange branchingChecksWrong)

/-- 'petrinetlaw26.BranchingPossibles': WHATEVER THE INPUT: true; the input reads as it did. -/
def branchingPossiblesSpec : ChangeSpec := { name := "branchingPossibles", fn := fun _ => fun
  | [d1, d2] => { results := [.lit (.bool true)], args := [d1, d2] }
  | _ => none }
def branchingPossiblesRow : OpenClaim := { program := "ytficdonjodadlaa", sum := "1bedb52f5f24af61759b8025d4393ded5247d5168eaacc7c840a5aaed77355bb", func := "petrinet/petrinetlaw26.BranchingPossibles", spec := "branchingPossibles", unfollowed := true, recurses := true, apart := false }
def BranchingPossiblesSaid : Prop := branchingPossiblesRow.holds Try.pinned (OpenSpec.ofChange branchingPossiblesSpec)

/-- ITS FALSE NEIGHBOUR: 'it returns false'. Refute it at one input. -/
def branchingPossiblesWrong : ChangeSpec := { name := "branchingPossibles", fn := fun _ => fun
  | [d1, d2] => { results := [.lit (.bool false)], args := [d1, d2] }
  | _ => none }
def BranchingPossiblesWrongFalsely : Prop := branchingPossiblesRow.holds Try.pinned (OpenSpec.ofChange branchingPossiblesWrong)

/-- 'petrinetlaw26.BranchingAdds': WHATEVER THE INPUT: true; the input reads as it did. -/
def branchingAddsSpec : ChangeSpec := { name := "branchingAdds", fn := fun _ => fun
  | [d1, d2, d3] => { results := [.lit (.bool true)], args := [d1, d2, d3] }
  | _ => none }
def branchingAddsRow : OpenClaim := { program := "ytficdonjodadlaa", sum := "1bedb52f5f24af61759b8025d4393ded5247d5168eaacc7c840a5aaed77355bb", func := "petrinet/petrinetlaw26.BranchingAdds", spec := "branchingAdds", unfollowed := true, recurses := true, apart := false }
def BranchingAddsSaid : Prop := branchingAddsRow.holds Try.pinned (OpenSpec.ofChange branchingAddsSpec)

/-- ITS FALSE NEIGHBOUR: 'it returns false'. Refute it at one input. -/
def branchingAddsWrong : ChangeSpec := { name := "branchingAdds", fn := fun _ => fun
  | [d1, d2, d3] => { results := [.lit (.bool false)], args := [d1, d2, d3] }
  | _ => none }
def BranchingAddsWrongFalsely : Prop := branchingAddsRow.holds Try.pinned (OpenSpec.ofChange branchingAddsWrong)

/-- 'petrinetlaw26.BranchingCosets': WHATEVER THE INPUT: true; the input reads as it did. -/
def branchingCosetsSpec : ChangeSpec := { name := "branchingCosets", fn := fun _ => fun
  | [d1, d2] => { results := [.lit (.bool true)], args := [d1, d2] }
  | _ => none }
def branchingCosetsRow : OpenClaim := { program := "ytficdonjodadlaa", sum := "1bedb52f5f24af61759b8025d4393ded5247d5168eaacc7c840a5aaed77355bb", func := "petrinet/petrinetlaw26.BranchingCosets", spec := "branchingCosets", unfollowed := true, recurses := true, apart := false }
def BranchingCosetsSaid : Prop := branchingCosetsRow.holds Try.pinned (OpenSpec.ofChange branchingCosetsSpec)

/-- ITS FALSE NEIGHBOUR: 'it returns false'. Refute it at one input. -/
def branchingCosetsWrong : ChangeSpec := { name := "branchingCosets", fn := fun _ => fun
  | [d1, d2] => { results := [.lit (.bool false)], args := [d1, d2] }
  | _ => none }
def BranchingCosetsWrongFalsely : Prop := branchingCosetsRow.holds Try.pinned (OpenSpec.ofChange branchingCosetsWrong)

/-- 'petrinetlaw26.BranchingExcludes': WHATEVER THE INPUT: true; the input reads as it did. -/
def branchingExcludesSpec : ChangeSpec := { name := "branchingExcludes", fn := fun _ => fun
  | [d1, d2] => { results := [.lit (.bool true)], args := [d1, d2] }
  | _ => none }
def branchingExcludesRow : OpenClaim := { program := "ytficdonjodadlaa", sum := "1bedb52f5f24af61759b8025d4393ded5247d5168eaacc7c840a5aaed77355bb", func := "petrinet/petrinetlaw26.BranchingExcludes", spec := "branchingExcludes", unfollowed := true, recurses := true, apart := false }
def BranchingExcludesSaid : Prop := branchingExcludesRow.holds Try.pinned (OpenSpec.ofChange branchingExcludesSpec)

/-- ITS FALSE NEIGHBOUR: 'it returns false'. Refute it at one input. -/
def branchingExcludesWrong : ChangeSpec := { name := "branchingExcludes", fn := fun _ => fun
  | [d1, d2] => { results := [.lit (.bool false)], args := [d1, d2] }
  | _ => none }
def BranchingExcludesWrongFalsely : Prop := branchingExcludesRow.holds Try.pinned (OpenSpec.ofChange branchingExcludesWrong)

/-- 'petrinetlaw26.BranchingMarks': WHATEVER THE INPUT: true; the input reads as it did. -/
def branchingMarksSpec : ChangeSpec := { name := "branchingMarks", fn := fun _ => fun
  | [d1, d2, d3] => { results := [.lit (.bool true)], args := [d1, d2, d3] }
  | _ => none }
def branchingMarksRow : OpenClaim := { program := "ytficdonjodadlaa", sum := "1bedb52f5f24af61759b8025d4393ded5247d5168eaacc7c840a5aaed77355bb", func := "petrinet/petrinetlaw26.BranchingMarks", spec := "branchingMarks", unfollowed := true, recurses := true, apart := false }
def BranchingMarksSaid : Prop := branchingMarksRow.holds Try.pinned (OpenSpec.ofChange branchingMarksSpec)

/-- ITS FALSE NEIGHBOUR: 'it returns false'. Refute it at one input. -/
def branchingMarksWrong : ChangeSpec := { name := "branchingMarks", fn := fun _ => fun
  | [d1, d2, d3] => { results := [.lit (.bool false)], args := [d1, d2, d3] }
  | _ => none }
def BranchingMarksWrongFalsely : Prop := branchingMarksRow.holds Try.pinned (OpenSpec.ofChange branchingMarksWrong)

/-- 'petrinetlaw26.BranchingRelates': WHATEVER THE INPUT: true; the input reads as it did. -/
def branchingRelatesSpec : ChangeSpec := { name := "branchingRelates", fn := fun _ => fun
  | [d] => { results := [.lit (.bool true)], args := [d] }
  | _ => none }
def branchingRelatesRow : OpenClaim := { program := "ytficdonjodadlaa", sum := "1bedb52f5f24af61759b8025d4393ded5247d5168eaacc7c840a5aaed77355bb", func := "petrinet/petrinetlaw26.BranchingRelates", spec := "branchingRelates", unfollowed := true, recurses := true, apart := false }
def BranchingRelatesSaid : Prop := branchingRelatesRow.holds Try.pinned (OpenSpec.ofChange branchingRelatesSpec)

/-- ITS FALSE NEIGHBOUR: 'it returns false'. Refute it at one input. -/
def branchingRelatesWrong : ChangeSpec := { name := "branchingRelates", fn := fun _ => fun
  | [d] => { results := [.lit (.bool false)], args := [d] }
  | _ => none }
def BranchingRelatesWrongFalsely : Prop := branchingRelatesRow.holds Try.pinned (OpenSpec.ofChange branchingRelatesWrong)

/- THE SECOND FORM. 'bulk': how many values and letters a reading holds, each counted each time it is reached (what is shared counts as often as it is met; a slice's spare places count too). A statement '..UptoSaid' is the law's where the arguments, and the package variables that the reading takes, are together of bulk at most 1048576: NARROWER than '..Said'. Prove '..Said' where nothing that the law and all that it calls make is longer than what came in: it says more and counts as full. Else prove '..UptoSaid'. A law counts once. -/
mutual
def uptoBulk {H : Type} : DataW H → Nat
  | .lit (.string bytes) => bytes.length + 1
  | .lit _ => 1
  | .nil => 1
  | .ptr d => uptoBulk d + 1
  | .slice elems spare => uptoBulkAll elems + uptoBulkAll spare + 1
  | .agg parts => uptoBulkAll parts + 1
  | .iface _ d => uptoBulk d + 1
  | .map entries => uptoBulkEntries entries + 1
  | .held _ => 1
def uptoBulkAll {H : Type} : List (DataW H) → Nat
  | [] => 0
  | d :: r => uptoBulk d + uptoBulkAll r
def uptoBulkEntries {H : Type} : List (Lit × DataW H) → Nat
  | [] => 0
  | x :: r => uptoBulkEntry x + uptoBulkEntries r
def uptoBulkEntry {H : Type} : Lit × DataW H → Nat
  | (.string bytes, d) => bytes.length + uptoBulk d + 1
  | (_, d) => uptoBulk d + 1
 end
def uptoSmall : (H : Type) → List (DataW H) → Bool := fun _ ds => decide (uptoBulkAll ds ≤ 1048576)
def OpenSpec.upto (s : _root_.Go.ChangeSpec) : _root_.Go.OpenSpec := { _root_.Go.OpenSpec.ofChange s with cond := some uptoSmall }

/-- 'petrinetlaw26.BranchingChecks', WHERE WHAT IT READS IS OF BULK AT MOST 1048576: true; the input reads as it did. -/
def branchingChecksUptoRow : OpenClaim := { program := "ytficdonjodadlaa", sum := "1bedb52f5f24af61759b8025d4393ded5247d5168eaacc7c840a5aaed77355bb", func := "petrinet/petrinetlaw26.BranchingChecks", spec := "branchingChecks", unfollowed := true, recurses := true, apart := false, narrowed := true }
def BranchingChecksUptoSaid : Prop := branchingChecksUptoRow.holds Try.pinned (OpenSpec.upto branchingChecksSpec)

/-- 'petrinetlaw26.BranchingPossibles', WHERE WHAT IT READS IS OF BULK AT MOST 1048576: true; the input reads as it did. -/
def branchingPossiblesUptoRow : OpenClaim := { program := "ytficdonjodadlaa", sum := "1bedb52f5f24af61759b8025d4393ded5247d5168eaacc7c840a5aaed77355bb", func := "petrinet/petrinetlaw26.BranchingPossibles", spec := "branchingPossibles", unfollowed := true, recurses := true, apart := false, narrowed := true }
def BranchingPossiblesUptoSaid : Prop := branchingPossiblesUptoRow.holds Try.pinned (OpenSpec.upto branchingPossiblesSpec)

/-- 'petrinetlaw26.BranchingAdds', WHERE WHAT IT READS IS OF BULK AT MOST 1048576: true; the input reads as it did. -/
def branchingAddsUptoRow : OpenClaim := { program := "ytficdonjodadlaa", sum := "1bedb52f5f24af61759b8025d4393ded5247d5168eaacc7c840a5aaed77355bb", func := "petrinet/petrinetlaw26.BranchingAdds", spec := "branchingAdds", unfollowed := true, recurses := true, apart := false, narrowed := true }
def BranchingAddsUptoSaid : Prop := branchingAddsUptoRow.holds Try.pinned (OpenSpec.upto branchingAddsSpec)

/-- 'petrinetlaw26.BranchingCosets', WHERE WHAT IT READS IS OF BULK AT MOST 1048576: true; the input reads as it did. -/
def branchingCosetsUptoRow : OpenClaim := { program := "ytficdonjodadlaa", sum := "1bedb52f5f24af61759b8025d4393ded5247d5168eaacc7c840a5aaed77355bb", func := "petrinet/petrinetlaw26.BranchingCosets", spec := "branchingCosets", unfollowed := true, recurses := true, apart := false, narrowed := true }
def BranchingCosetsUptoSaid : Prop := branchingCosetsUptoRow.holds Try.pinned (OpenSpec.upto branchingCosetsSpec)

/-- 'petrinetlaw26.BranchingExcludes', WHERE WHAT IT READS IS OF BULK AT MOST 1048576: true; the input reads as it did. -/
def branchingExcludesUptoRow : OpenClaim := { program := "ytficdonjodadlaa", sum := "1bedb52f5f24af61759b8025d4393ded5247d5168eaacc7c840a5aaed77355bb", func := "petrinet/petrinetlaw26.BranchingExcludes", spec := "branchingExcludes", unfollowed := true, recurses := true, apart := false, narrowed := true }
def BranchingExcludesUptoSaid : Prop := branchingExcludesUptoRow.holds Try.pinned (OpenSpec.upto branchingExcludesSpec)

/-- 'petrinetlaw26.BranchingMarks', WHERE WHAT IT READS IS OF BULK AT MOST 1048576: true; the input reads as it did. -/
def branchingMarksUptoRow : OpenClaim := { program := "ytficdonjodadlaa", sum := "1bedb52f5f24af61759b8025d4393ded5247d5168eaacc7c840a5aaed77355bb", func := "petrinet/petrinetlaw26.BranchingMarks", spec := "branchingMarks", unfollowed := true, recurses := true, apart := false, narrowed := true }
def BranchingMarksUptoSaid : Prop := branchingMarksUptoRow.holds Try.pinned (OpenSpec.upto branchingMarksSpec)

/-- 'petrinetlaw26.BranchingRelates', WHERE WHAT IT READS IS OF BULK AT MOST 1048576: true; the input reads as it did. -/
def branchingRelatesUptoRow : OpenClaim := { program := "ytficdonjodadlaa", sum := "1bedb52f5f24af61759b8025d4393ded5247d5168eaacc7c840a5aaed77355bb", func := "petrinet/petrinetlaw26.BranchingRelates", spec := "branchingRelates", unfollowed := true, recurses := true, apart := false, narrowed := true }
def BranchingRelatesUptoSaid : Prop := branchingRelatesUptoRow.holds Try.pinned (OpenSpec.upto branchingRelatesSpec)

end Rows
end Go.Proofs.Ytficdonjodadlaa
