/-
  NARROWER THAN 'FOR EVERY INPUT', by the rows' own cells (each row's printed sentence says how): ProofDeps: loops · ProofPrefix: loops · ProofSplit: loops · ProofNeeds: loops.
  DERIVED. THE GIVEN ROWS OF THIS SEAT. 6 by the template 'for every input the law returns true; each argument reads behind the call as it read before'; 0 by the template 'total and deterministic' (their statements: YtgakndkfbhhcnaaGreatTotals.lean).
  GIVEN WITH THE SEED: the statements are not yours to turn. If you find one false, say at which input.
  Laid BY PROGRAM, IN A SANDBOX (cutbox-rows.mjs): the forced cells as the released guide's own fill.sh prints them over the translation a1ce84f66ea77288… (all of the seat's roots in one cut). By AI agents, Wed Nov 11 2026. No macro, syntax, notation, axiom, sorry.
-/
import Derived.Test.YtgakndkfbhhcnaaGreatChecked
import GoSem.Claim
import GoSem.ClaimJoined
import GoSem.ClaimMapViews
import Derived.JoinedTies
import Derived.KernelRfl
namespace Go.Proofs.YtgakndkfbhhcnaaGreat
/- THE CELL 'sum', in the pinned program and in every row, IS THE sha256 OF THE DUMP (.gsa) THAT YtgakndkfbhhcnaaGreatProg.lean LOADS. Nothing in Lean hashes anything: it is a label: what it is worth is what the hold of that sum in a sandbox is worth. -/
noncomputable def Tryz.pinned : Pinned := { name := "ytgakndkfbhhcnaagreat", sum := "a1ce84f66ea77288f408ddae11f76a23c871219560e1cdd81c447a9acb86259d", checked := Tryz.checked }
namespace Rows
def none {H : Type} : Left H := { results := [], args := [] }

/-- 'sequentlaw06.ProofDeps': WHATEVER THE INPUT: true; the input reads as it did. -/
def proofDepsSpec : ChangeSpec := { name := "proofDeps", fn := fun _ => fun
  | [d1, d2] => { results := [.lit (.bool true)], args := [d1, d2] }
  | _ => none }
def proofDepsRow : OpenClaim := { program := "ytgakndkfbhhcnaagreat", sum := "a1ce84f66ea77288f408ddae11f76a23c871219560e1cdd81c447a9acb86259d", func := "sequent/sequentlaw06.ProofDeps", spec := "proofDeps", inPlace := ["internal/bytealg.abigen_runtime_cmpstring"], unfollowed := true, recurses := true, loops := true, apart := false }
def ProofDepsSaid : Prop := proofDepsRow.holds Tryz.pinned (OpenSpec.ofChange proofDepsSpec)

/-- ITS FALSE NEIGHBOUR: 'it returns false'. Refute it at one input. -/
def proofDepsWrong : ChangeSpec := { name := "proofDeps", fn := fun _ => fun
  | [d1, d2] => { results := [.lit (.bool false)], args := [d1, d2] }
  | _ => none }
def ProofDepsWrongFalsely : Prop := proofDepsRow.holds Tryz.pinned (OpenSpec.ofChange proofDepsWrong)

/-- 'sequentlaw06.ProofPrefix': WHATEVER THE INPUT: true; the input reads as it did. -/
def proofPrefixSpec : ChangeSpec := { name := "proofPrefix", fn := fun _ => fun
  | [d1, d2] => { results := [.lit (.bool true)], args := [d1, d2] }
  | _ => none }
def proofPrefixRow : OpenClaim := { program := "ytgakndkfbhhcnaagreat", sum := "a1ce84f66ea77288f408ddae11f76a23c871219560e1cdd81c447a9acb86259d", func := "sequent/sequentlaw06.ProofPrefix", spec := "proofPrefix", inPlace := ["internal/bytealg.abigen_runtime_cmpstring"], unfollowed := true, recurses := true, loops := true, apart := false }
def ProofPrefixSaid : Prop := proofPrefixRow.holds Tryz.pinned (OpenSpec.ofChange proofPrefixSpec)

/-- ITS FALSE NEIGHBOUR: 'it returns false'. Refute it at one input. -/
def proofPrefixWrong : ChangeSpec := { name := "proofPrefix", fn := fun _ => fun
  | [d1, d2] => { results := [.lit (.bool false)], args := [d1, d2] }
  | _ => none }
def ProofPrefixWrongFalsely : Prop := proofPrefixRow.holds Tryz.pinned (OpenSpec.ofChange proofPrefixWrong)

/-- 'sequentlaw06.ProofSplit': WHATEVER THE INPUT: true; the input reads as it did. -/
def proofSplitSpec : ChangeSpec := { name := "proofSplit", fn := fun _ => fun
  | [d1, d2] => { results := [.lit (.bool true)], args := [d1, d2] }
  | _ => none }
def proofSplitRow : OpenClaim := { program := "ytgakndkfbhhcnaagreat", sum := "a1ce84f66ea77288f408ddae11f76a23c871219560e1cdd81c447a9acb86259d", func := "sequent/sequentlaw06.ProofSplit", spec := "proofSplit", inPlace := ["internal/bytealg.abigen_runtime_cmpstring"], unfollowed := true, recurses := true, loops := true, apart := false }
def ProofSplitSaid : Prop := proofSplitRow.holds Tryz.pinned (OpenSpec.ofChange proofSplitSpec)

/-- ITS FALSE NEIGHBOUR: 'it returns false'. Refute it at one input. -/
def proofSplitWrong : ChangeSpec := { name := "proofSplit", fn := fun _ => fun
  | [d1, d2] => { results := [.lit (.bool false)], args := [d1, d2] }
  | _ => none }
def ProofSplitWrongFalsely : Prop := proofSplitRow.holds Tryz.pinned (OpenSpec.ofChange proofSplitWrong)

/-- 'sequentlaw06.ProofNames': WHATEVER THE INPUT: true; the input reads as it did. -/
def proofNamesSpec : ChangeSpec := { name := "proofNames", fn := fun _ => fun
  | [] => { results := [.lit (.bool true)], args := [] }
  | _ => none }
def proofNamesRow : OpenClaim := { program := "ytgakndkfbhhcnaagreat", sum := "a1ce84f66ea77288f408ddae11f76a23c871219560e1cdd81c447a9acb86259d", func := "sequent/sequentlaw06.ProofNames", spec := "proofNames", inPlace := ["internal/bytealg.abigen_runtime_cmpstring"], unfollowed := true, recurses := true, apart := false }
def ProofNamesSaid : Prop := proofNamesRow.holds Tryz.pinned (OpenSpec.ofChange proofNamesSpec)

/-- ITS FALSE NEIGHBOUR: 'it returns false'. Refute it at one input. -/
def proofNamesWrong : ChangeSpec := { name := "proofNames", fn := fun _ => fun
  | [] => { results := [.lit (.bool false)], args := [] }
  | _ => none }
def ProofNamesWrongFalsely : Prop := proofNamesRow.holds Tryz.pinned (OpenSpec.ofChange proofNamesWrong)

/-- 'sequentlaw06.ProofNeeds': WHATEVER THE INPUT: true; the input reads as it did. -/
def proofNeedsSpec : ChangeSpec := { name := "proofNeeds", fn := fun _ => fun
  | [d1, d2] => { results := [.lit (.bool true)], args := [d1, d2] }
  | _ => none }
def proofNeedsRow : OpenClaim := { program := "ytgakndkfbhhcnaagreat", sum := "a1ce84f66ea77288f408ddae11f76a23c871219560e1cdd81c447a9acb86259d", func := "sequent/sequentlaw06.ProofNeeds", spec := "proofNeeds", inPlace := ["internal/bytealg.abigen_runtime_cmpstring"], unfollowed := true, recurses := true, loops := true, apart := false }
def ProofNeedsSaid : Prop := proofNeedsRow.holds Tryz.pinned (OpenSpec.ofChange proofNeedsSpec)

/-- ITS FALSE NEIGHBOUR: 'it returns false'. Refute it at one input. -/
def proofNeedsWrong : ChangeSpec := { name := "proofNeeds", fn := fun _ => fun
  | [d1, d2] => { results := [.lit (.bool false)], args := [d1, d2] }
  | _ => none }
def ProofNeedsWrongFalsely : Prop := proofNeedsRow.holds Tryz.pinned (OpenSpec.ofChange proofNeedsWrong)

/-- 'sequentlaw33.PruneNames': WHATEVER THE INPUT: true; the input reads as it did. -/
def pruneNamesSpec : ChangeSpec := { name := "pruneNames", fn := fun _ => fun
  | [] => { results := [.lit (.bool true)], args := [] }
  | _ => none }
def pruneNamesRow : OpenClaim := { program := "ytgakndkfbhhcnaagreat", sum := "a1ce84f66ea77288f408ddae11f76a23c871219560e1cdd81c447a9acb86259d", func := "sequent/sequentlaw33.PruneNames", spec := "pruneNames", inPlace := ["internal/bytealg.abigen_runtime_cmpstring"], unfollowed := true, recurses := true, apart := false }
def PruneNamesSaid : Prop := pruneNamesRow.holds Tryz.pinned (OpenSpec.ofChange pruneNamesSpec)

/-- ITS FALSE NEIGHBOUR: 'it returns false'. Refute it at one input. -/
def pruneNamesWrong : ChangeSpec := { name := "pruneNames", fn := fun _ => fun
  | [] => { results := [.lit (.bool false)], args := [] }
  | _ => none }
def PruneNamesWrongFalsely : Prop := pruneNamesRow.holds Tryz.pinned (OpenSpec.ofChange pruneNamesWrong)

/- THE SECOND FORM. 'bulk': how many values and letters a reading holds, each counted each time it is reached (what is shared counts as often as it is met; a slice's spare places count too). A statement '..UptoSaid' is the law's where the arguments, and the package variables that the reading takes, are together of bulk at most 1048576: NARROWER than '..Said'. Prove '..Said' where nothing that the law and all that it calls make is longer than what came in: it says more and counts as full. Else prove '..UptoSaid'. A law counts once. -/
mutual
def uptoBulk {H : Type} : DataW H → Nat
  | .lit (.string bytes) => bytes.length + 1
  | .lit _ => 1
  | .nil => 1
  | .ptr d => uptoBulk d + 1
  | .slice elems spare => uptoBulkAll elems + uptoBulkAll spare + 1
  | .agg parts => uptoBulkAll parts + 1
  | .iface _ d => uptoBulk d + 1
  | .map entries => uptoBulkEntries entries + 1
  | .held _ => 1
def uptoBulkAll {H : Type} : List (DataW H) → Nat
  | [] => 0
  | d :: r => uptoBulk d + uptoBulkAll r
def uptoBulkEntries {H : Type} : List (Lit × DataW H) → Nat
  | [] => 0
  | x :: r => uptoBulkEntry x + uptoBulkEntries r
def uptoBulkEntry {H : Type} : Lit × DataW H → Nat
  | (.string bytes, d) => bytes.length + uptoBulk d + 1
  | (_, d) => uptoBulk d + 1
 end
def uptoSmall : (H : Type) → List (DataW H) → Bool := fun _ ds => decide (uptoBulkAll ds ≤ 1048576)
def OpenSpec.upto (s : _root_.Go.ChangeSpec) : _root_.Go.OpenSpec := { _root_.Go.OpenSpec.ofChange s with cond := some uptoSmall }

/-- 'sequentlaw06.ProofDeps', WHERE WHAT IT READS IS OF BULK AT MOST 1048576: true; the input reads as it did. -/
def proofDepsUptoRow : OpenClaim := { program := "ytgakndkfbhhcnaagreat", sum := "a1ce84f66ea77288f408ddae11f76a23c871219560e1cdd81c447a9acb86259d", func := "sequent/sequentlaw06.ProofDeps", spec := "proofDeps", inPlace := ["internal/bytealg.abigen_runtime_cmpstring"], unfollowed := true, recurses := true, loops := true, apart := false, narrowed := true }
def ProofDepsUptoSaid : Prop := proofDepsUptoRow.holds Tryz.pinned (OpenSpec.upto proofDepsSpec)

/-- 'sequentlaw06.ProofPrefix', WHERE WHAT IT READS IS OF BULK AT MOST 1048576: true; the input reads as it did. -/
def proofPrefixUptoRow : OpenClaim := { program := "ytgakndkfbhhcnaagreat", sum := "a1ce84f66ea77288f408ddae11f76a23c871219560e1cdd81c447a9acb86259d", func := "sequent/sequentlaw06.ProofPrefix", spec := "proofPrefix", inPlace := ["internal/bytealg.abigen_runtime_cmpstring"], unfollowed := true, recurses := true, loops := true, apart := false, narrowed := true }
def ProofPrefixUptoSaid : Prop := proofPrefixUptoRow.holds Tryz.pinned (OpenSpec.upto proofPrefixSpec)

/-- 'sequentlaw06.ProofSplit', WHERE WHAT IT READS IS OF BULK AT MOST 1048576: true; the input reads as it did. -/
def proofSplitUptoRow : OpenClaim := { program := "ytgakndkfbhhcnaagreat", sum := "a1ce84f66ea77288f408ddae11f76a23c871219560e1cdd81c447a9acb86259d", func := "sequent/sequentlaw06.ProofSplit", spec := "proofSplit", inPlace := ["internal/bytealg.abigen_runtime_cmpstring"], unfollowed := true, recurses := true, loops := true, apart := false, narrowed := true }
def ProofSplitUptoSaid : Prop := proofSplitUptoRow.holds Tryz.pinned (OpenSpec.upto proofSplitSpec)

/-- 'sequentlaw06.ProofNames', WHERE WHAT IT READS IS OF BULK AT MOST 1048576: true; the input reads as it did. -/
def proofNamesUptoRow : OpenClaim := { program := "ytgakndkfbhhcnaagreat", sum := "a1ce84f66ea77288f408ddae11f76a23c871219560e1cdd81c447a9acb86259d", func := "sequent/sequentlaw06.ProofNames", spec := "proofNames", inPlace := ["internal/bytealg.abigen_runtime_cmpstring"], unfollowed := true, recurses := true, apart := false, narrowed := true }
def ProofNamesUptoSaid : Prop := proofNamesUptoRow.holds Tryz.pinned (OpenSpec.upto proofNamesSpec)

/-- 'sequentlaw06.ProofNeeds', WHERE WHAT IT READS IS OF BULK AT MOST 1048576: true; the input reads as it did. -/
def proofNeedsUptoRow : OpenClaim := { program := "ytgakndkfbhhcnaagreat", sum := "a1ce84f66ea77288f408ddae11f76a23c871219560e1cdd81c447a9acb86259d", func := "sequent/sequentlaw06.ProofNeeds", spec := "proofNeeds", inPlace := ["internal/bytealg.abigen_runtime_cmpstring"], unfollowed := true, recurses := true, loops := true, apart := false, narrowed := true }
def ProofNeedsUptoSaid : Prop := proofNeedsUptoRow.holds Tryz.pinned (OpenSpec.upto proofNeedsSpec)

/-- 'sequentlaw33.PruneNames', WHERE WHAT IT READS IS OF BULK AT MOST 1048576: true; the input reads as it did. -/
def pruneNamesUptoRow : OpenClaim := { program := "ytgakndkfbhhcnaagreat", sum := "a1ce84f66ea77288f408ddae11f76a23c871219560e1cdd81c447a9acb86259d", func := "sequent/sequentlaw33.PruneNames", spec := "pruneNames", inPlace := ["internal/bytealg.abigen_runtime_cmpstring"], unfollowed := true, recurses := true, apart := false, narrowed := true }
def PruneNamesUptoSaid : Prop := pruneNamesUptoRow.holds Tryz.pinned (OpenSpec.upto pruneNamesSpec)

end Rows
end Go.Proofs.YtgakndkfbhhcnaaGreat
