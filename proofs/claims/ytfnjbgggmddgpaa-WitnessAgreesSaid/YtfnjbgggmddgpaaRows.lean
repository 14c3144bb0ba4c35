/-
  No cell of these rows narrows 'for every input' (looked for: loops, veiled, ifaces, maps, wideKeys, modest, calm, conditions, laid).
  DERIVED. THE GIVEN ROWS OF THIS SEAT. 6 by the template 'for every input the law returns true; each argument reads behind the call as it read before'; 0 by the template 'total and deterministic' (their statements: YtfnjbgggmddgpaaTotals.lean).
  GIVEN WITH THE SEED: the statements are not yours to turn. If you find one false, say at which input.
  Laid BY PROGRAM, IN A SANDBOX (cutbox-rows.mjs): the forced cells as the released guide's own fill.sh prints them over the translation 7c6ccedf4f1a0d78… (all of the seat's roots in one cut). By AI agents, Wed Nov 11 2026. No macro, syntax, notation, axiom, sorry.
-/
import Derived.Test.YtfnjbgggmddgpaaChecked
import GoSem.Claim
import GoSem.ClaimJoined
import GoSem.ClaimMapViews
import Derived.JoinedTies
import Derived.KernelRfl
namespace Go.Proofs.Ytfnjbgggmddgpaa
/- THE CELL 'sum', in the pinned program and in every row, IS THE sha256 OF THE DUMP (.gsa) THAT YtfnjbgggmddgpaaProg.lean LOADS. Nothing in Lean hashes anything: it is a label: what it is worth is what the hold of that sum in a sandbox is worth. -/
noncomputable def Try.pinned : Pinned := { name := "ytfnjbgggmddgpaa", sum := "7c6ccedf4f1a0d78a729813c1532117c3e125261f1dab9186a0b556f0ec434e5", checked := Try.checked }
namespace Rows
def none {H : Type} : Left H := { results := [], args := [] }

/-- 'petrinetlaw16.WitnessDead': WHATEVER THE INPUT: true; the input reads as it did. -/
def witnessDeadSpec : ChangeSpec := { name := "witnessDead", fn := fun _ => fun
  | [d] => { results := [.lit (.bool true)], args := [d] }
  | _ => none }
def witnessDeadRow : OpenClaim := { program := "ytfnjbgggmddgpaa", sum := "7c6ccedf4f1a0d78a729813c1532117c3e125261f1dab9186a0b556f0ec434e5", func := "petrinet/petrinetlaw16.WitnessDead", spec := "witnessDead", unfollowed := true, recurses := true, apart := false }
def WitnessDeadSaid : Prop := witnessDeadRow.holds Try.pinned (OpenSpec.ofChange witnessDeadSpec)

/-- ITS FALSE NEIGHBOUR: 'it returns false'. Refute it at one input. -/
def witnessDeadWrong : ChangeSpec := { name := "witnessDead", fn := fun _ => fun
  | [d] => { results := [.lit (.bool false)], args := [d] }
  | _ => none }
def WitnessDeadWrongFalsely : Prop := witnessDeadRow.holds Try.pinned (OpenSpec.ofChange witnessDeadWrong)

/-- 'petrinetlaw16.WitnessBetween': WHATEVER THE INPUT: true; the input reads as it did. -/
def witnessBetweenSpec : ChangeSpec := { name := "witnessBetween", fn := fun _ => fun
  | [d1, d2, d3] => { results := [.lit (.bool true)], args := [d1, d2, d3] }
  | _ => none }
def witnessBetweenRow : OpenClaim := { program := "ytfnjbgggmddgpaa", sum := "7c6ccedf4f1a0d78a729813c1532117c3e125261f1dab9186a0b556f0ec434e5", func := "petrinet/petrinetlaw16.WitnessBetween", spec := "witnessBetween", unfollowed := true, recurses := true, apart := false }
def WitnessBetweenSaid : Prop := witnessBetweenRow.holds Try.pinned (OpenSpec.ofChange witnessBetweenSpec)

/-- ITS FALSE NEIGHBOUR: 'it returns false'. Refute it at one input. -/
def witnessBetweenWrong : ChangeSpec := { name := "witnessBetween", fn := fun _ => fun
  | [d1, d2, d3] => { results := [.lit (.bool false)], args := [d1, d2, d3] }
  | _ => none }
def WitnessBetweenWrongFalsely : Prop := witnessBetweenRow.holds Try.pinned (OpenSpec.ofChange witnessBetweenWrong)

/-- 'petrinetlaw16.WitnessRuns': WHATEVER THE INPUT: true; the input reads as it did. -/
def witnessRunsSpec : ChangeSpec := { name := "witnessRuns", fn := fun _ => fun
  | [d1, d2, d3] => { results := [.lit (.bool true)], args := [d1, d2, d3] }
  | _ => none }
def witnessRunsRow : OpenClaim := { program := "ytfnjbgggmddgpaa", sum := "7c6ccedf4f1a0d78a729813c1532117c3e125261f1dab9186a0b556f0ec434e5", func := "petrinet/petrinetlaw16.WitnessRuns", spec := "witnessRuns", unfollowed := true, recurses := true, apart := false }
def WitnessRunsSaid : Prop := witnessRunsRow.holds Try.pinned (OpenSpec.ofChange witnessRunsSpec)

/-- ITS FALSE NEIGHBOUR: 'it returns false'. Refute it at one input. -/
def witnessRunsWrong : ChangeSpec := { name := "witnessRuns", fn := fun _ => fun
  | [d1, d2, d3] => { results := [.lit (.bool false)], args := [d1, d2, d3] }
  | _ => none }
def WitnessRunsWrongFalsely : Prop := witnessRunsRow.holds Try.pinned (OpenSpec.ofChange witnessRunsWrong)

/-- 'petrinetlaw16.WitnessLanguage': WHATEVER THE INPUT: true; the input reads as it did. -/
def witnessLanguageSpec : ChangeSpec := { name := "witnessLanguage", fn := fun _ => fun
  | [d1, d2] => { results := [.lit (.bool true)], args := [d1, d2] }
  | _ => none }
def witnessLanguageRow : OpenClaim := { program := "ytfnjbgggmddgpaa", sum := "7c6ccedf4f1a0d78a729813c1532117c3e125261f1dab9186a0b556f0ec434e5", func := "petrinet/petrinetlaw16.WitnessLanguage", spec := "witnessLanguage", unfollowed := true, recurses := true, apart := false }
def WitnessLanguageSaid : Prop := witnessLanguageRow.holds Try.pinned (OpenSpec.ofChange witnessLanguageSpec)

/-- ITS FALSE NEIGHBOUR: 'it returns false'. Refute it at one input. -/
def witnessLanguageWrong : ChangeSpec := { name := "witnessLanguage", fn := fun _ => fun
  | [d1, d2] => { results := [.lit (.bool false)], args := [d1, d2] }
  | _ => none }
def WitnessLanguageWrongFalsely : Prop := witnessLanguageRow.holds Try.pinned (OpenSpec.ofChange witnessLanguageWrong)

/-- 'petrinetlaw16.WitnessFires': WHATEVER THE INPUT: true; the input reads as it did. -/
def witnessFiresSpec : ChangeSpec := { name := "witnessFires", fn := fun _ => fun
  | [d1, d2, d3] => { results := [.lit (.bool true)], args := [d1, d2, d3] }
  | _ => none }
def witnessFiresRow : OpenClaim := { program := "ytfnjbgggmddgpaa", sum := "7c6ccedf4f1a0d78a729813c1532117c3e125261f1dab9186a0b556f0ec434e5", func := "petrinet/petrinetlaw16.WitnessFires", spec := "witnessFires", unfollowed := true, recurses := true, apart := false }
def WitnessFiresSaid : Prop := witnessFiresRow.holds Try.pinned (OpenSpec.ofChange witnessFiresSpec)

/-- ITS FALSE NEIGHBOUR: 'it returns false'. Refute it at one input. -/
def witnessFiresWrong : ChangeSpec := { name := "witnessFires", fn := fun _ => fun
  | [d1, d2, d3] => { results := [.lit (.bool false)], args := [d1, d2, d3] }
  | _ => none }
def WitnessFiresWrongFalsely : Prop := witnessFiresRow.holds Try.pinned (OpenSpec.ofChange witnessFiresWrong)

/-- 'petrinetlaw16.WitnessAgrees': WHATEVER THE INPUT: true; the input reads as it did. -/
def witnessAgreesSpec : ChangeSpec := { name := "witnessAgrees", fn := fun _ => fun
  | [d1, d2] => { results := [.lit (.bool true)], args := [d1, d2] }
  | _ => none }
def witnessAgreesRow : OpenClaim := { program := "ytfnjbgggmddgpaa", sum := "7c6ccedf4f1a0d78a729813c1532117c3e125261f1dab9186a0b556f0ec434e5", func := "petrinet/petrinetlaw16.WitnessAgrees", spec := "witnessAgrees", unfollowed := true, recurses := true, apart := false }
def WitnessAgreesSaid : Prop := witnessAgreesRow.holds Try.pinned (OpenSpec.ofChange witnessAgreesSpec)

/-- ITS FALSE NEIGHBOUR: 'it returns false'. Refute it at one input. -/
def witnessAgreesWrong : ChangeSpec := { name := "witnessAgrees", fn := fun _ => fun
  | [d1, d2] => { results := [.lit (.bool false)], args := [d1, d2] }
  | _ => none }
def WitnessAgreesWrongFalsely : Prop := witnessAgreesRow.holds Try.pinned (OpenSpec.ofChange witnessAgreesWrong)

/- THE SECOND FORM. 'bulk': how many values and letters a reading holds, each counted each time it is reached (what is shared counts as often as it is met; a slice's spare places count too). A statement '..UptoSaid' is the law's where the arguments, and the package variables that the reading takes, are together of bulk at most 1048576: NARROWER than '..Said'. Prove '..Said' where nothing that the law and all that it calls make is longer than what came in: it says more and counts as full. Else prove '..UptoSaid'. A law counts once. -/
mutual
def uptoBulk {H : Type} : DataW H → Nat
  | .lit (.string bytes) => bytes.length + 1
  | .lit _ => 1
  | .nil => 1
  | .ptr d => uptoBulk d + 1
  | .slice elems spare => uptoBulkAll elems + uptoBulkAll spare + 1
  | .agg parts => uptoBulkAll parts + 1
  | .iface _ d => uptoBulk d + 1
  | .map entries => uptoBulkEntries entries + 1
  | .held _ => 1
def uptoBulkAll {H : Type} : List (DataW H) → Nat
  | [] => 0
  | d :: r => uptoBulk d + uptoBulkAll r
def uptoBulkEntries {H : Type} : List (Lit × DataW H) → Nat
  | [] => 0
  | x :: r => uptoBulkEntry x + uptoBulkEntries r
def uptoBulkEntry {H : Type} : Lit × DataW H → Nat
  | (.string bytes, d) => bytes.length + uptoBulk d + 1
  | (_, d) => uptoBulk d + 1
 end
def uptoSmall : (H : Type) → List (DataW H) → Bool := fun _ ds => decide (uptoBulkAll ds ≤ 1048576)
def OpenSpec.upto (s : _root_.Go.ChangeSpec) : _root_.Go.OpenSpec := { _root_.Go.OpenSpec.ofChange s with cond := some uptoSmall }

/-- 'petrinetlaw16.WitnessDead', WHERE WHAT IT READS IS OF BULK AT MOST 1048576: true; the input reads as it did. -/
def witnessDeadUptoRow : OpenClaim := { program := "ytfnjbgggmddgpaa", sum := "7c6ccedf4f1a0d78a729813c1532117c3e125261f1dab9186a0b556f0ec434e5", func := "petrinet/petrinetlaw16.WitnessDead", spec := "witnessDead", unfollowed := true, recurses := true, apart := false, narrowed := true }
def WitnessDeadUptoSaid : Prop := witnessDeadUptoRow.holds Try.pinned (OpenSpec.upto witnessDeadSpec)

/-- 'petrinetlaw16.WitnessBetween', WHERE WHAT IT READS IS OF BULK AT MOST 1048576: true; the input reads as it did. -/
def witnessBetweenUptoRow : OpenClaim := { program := "ytfnjbgggmddgpaa", sum := "7c6ccedf4f1a0d78a729813c1532117c3e125261f1dab9186a0b556f0ec434e5", func := "petrinet/petrinetlaw16.WitnessBetween", spec := "witnessBetween", unfollowed := true, recurses := true, apart := false, narrowed := true }
def WitnessBetweenUptoSaid : Prop := witnessBetweenUptoRow.holds Try.pinned (OpenSpec.upto witnessBetweenSpec)

/-- 'petrinetlaw16.WitnessRuns', WHERE WHAT IT READS IS OF BULK AT MOST 1048576: true; the input reads as it did. -/
def witnessRunsUptoRow : OpenClaim := { program := "ytfnjbgggmddgpaa", sum := "7c6ccedf4f1a0d78a729813c1532117c3e125261f1dab9186a0b556f0ec434e5", func := "petrinet/petrinetlaw16.WitnessRuns", spec := "witnessRuns", unfollowed := true, recurses := true, apart := false, narrowed := true }
def WitnessRunsUptoSaid : Prop := witnessRunsUptoRow.holds Try.pinned (OpenSpec.upto witnessRunsSpec)

/-- 'petrinetlaw16.WitnessLanguage', WHERE WHAT IT READS IS OF BULK AT MOST 1048576: true; the input reads as it did. -/
def witnessLanguageUptoRow : OpenClaim := { program := "ytfnjbgggmddgpaa", sum := "7c6ccedf4f1a0d78a729813c1532117c3e125261f1dab9186a0b556f0ec434e5", func := "petrinet/petrinetlaw16.WitnessLanguage", spec := "witnessLanguage", unfollowed := true, recurses := true, apart := false, narrowed := true }
def WitnessLanguageUptoSaid : Prop := witnessLanguageUptoRow.holds Try.pinned (OpenSpec.upto witnessLanguageSpec)

/-- 'petrinetlaw16.WitnessFires', WHERE WHAT IT READS IS OF BULK AT MOST 1048576: true; the input reads as it did. -/
def witnessFiresUptoRow : OpenClaim := { program := "ytfnjbgggmddgpaa", sum := "7c6ccedf4f1a0d78a729813c1532117c3e125261f1dab9186a0b556f0ec434e5", func := "petrinet/petrinetlaw16.WitnessFires", spec := "witnessFires", unfollowed := true, recurses := true, apart := false, narrowed := true }
def WitnessFiresUptoSaid : Prop := witnessFiresUptoRow.holds Try.pinned (OpenSpec.upto witnessFiresSpec)

/-- 'petrinetlaw16.WitnessAgrees', WHERE WHAT IT READS IS OF BULK AT MOST 1048576: true; the input reads as it did. -/
def witnessAgreesUptoRow : OpenClaim := { program := "ytfnjbgggmddgpaa", sum := "7c6ccedf4f1a0d78a729813c1532117c3e125261f1dab9186a0b556f0ec434e5", func := "petrinet/petrinetlaw16.WitnessAgrees", spec := "witnessAgrees", unfollowed := true, recurses := true, apart := false, narrowed := true }
def WitnessAgreesUptoSaid : Prop := witnessAgreesUptoRow.holds Try.pinned (OpenSpec.upto witnessAgreesSpec)

end Rows
end Go.Proofs.Ytfnjbgggmddgpaa
