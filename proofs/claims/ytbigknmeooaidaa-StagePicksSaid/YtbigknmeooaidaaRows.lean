/-
  No cell of these rows narrows 'for every input' (looked for: loops, veiled, ifaces, maps, wideKeys, modest, calm, conditions, laid).
  DERIVED. THE GIVEN ROWS OF THIS SEAT. 7 by the template 'for every input the law returns true; each argument reads behind the call as it read before'; 0 by the template 'total and deterministic' (their statements: YtbigknmeooaidaaTotals.lean).
  GIVEN WITH THE SEED: the statements are not yours to turn. If you find one false, say at which input.
  Laid BY PROGRAM, IN A SANDBOX (cutbox-rows.mjs): the forced cells as the released guide's own fill.sh prints them over the translation 5bf6097a3078e853… (all of the seat's roots in one cut). By AI agents, Wed Nov 11 2026. No macro, syntax, notation, axiom, sorry.
-/
import Derived.Test.YtbigknmeooaidaaChecked
import GoSem.Claim
import GoSem.ClaimJoined
import GoSem.ClaimMapViews
import Derived.JoinedTies
import Derived.KernelRfl
namespace Go.Proofs.Ytbigknmeooaidaa
/- THE CELL 'sum', in the pinned program and in every row, IS THE sha256 OF THE DUMP (.gsa) THAT YtbigknmeooaidaaProg.lean LOADS. Nothing in Lean hashes anything: it is a label: what it is worth is what the hold of that sum in a sandbox is worth. -/
noncomputable def Try.pinned : Pinned := { name := "ytbigknmeooaidaa", sum := "5bf6097a3078e8538f597dae11dd77a72558cacb9f95d389a7f576aad56bc45b", checked := Try.checked }
namespace Rows
def none {H : Type} : Left H := { results := [], args := [] }

/-- 'vivariumlaw23.StageApart': WHATEVER THE INPUT: true; the input reads as it did. -/
def stageApartSpec : ChangeSpec := { name := "stageApart", fn := fun _ => fun
  | [d1, d2] => { results := [.lit (.bool true)], args := [d1, d2] }
  | _ => none }
def stageApartRow : OpenClaim := { program := "ytbigknmeooaidaa", sum := "5bf6097a3078e8538f597dae11dd77a72558cacb9f95d389a7f576aad56bc45b", func := "vivarium/vivariumlaw23.StageApart", spec := "stageApart", unfollowed := true, recurses := true, apart := false }
def StageApartSaid : Prop := stageApartRow.holds Try.pinned (OpenSpec.ofChange stageApartSpec)

/-- ITS FALSE NEIGHBOUR: 'it returns false'. Refute it at one input. -/
def stageApartWrong : ChangeSpec := { name := "stageApart", fn := fun _ => fun
  | [d1, d2] => { results := [.lit (.bool false)], args := [d1, d2] }
  | _ => none }
def StageApartWrongFalsely : Prop := stageApartRow.holds Try.pinned (OpenSpec.ofChange stageApartWrong)

/-- 'vivariumlaw23.StageChain': WHATEVER THE INPUT: true; the input reads as it did. -/
def stageChainSpec : ChangeSpec := { name := "stageChain", fn := fun _ => fun
  | [d1, d2] => { results := [.lit (.bool true)], args := [d1, d2] }
  | _ => none }
def stageChainRow : OpenClaim := { program := "ytbigknmeooaidaa", sum := "5bf6097a3078e8538f597dae11dd77a72558cacb9f95d389a7f576aad56bc45b", func := "vivarium/vivariumlaw23.StageChain", spec := "stageChain", unfollowed := true, recurses := true, apart := false }
def StageChainSaid : Prop := stageChainRow.holds Try.pinned (OpenSpec.ofChange stageChainSpec)

/-- ITS FALSE NEIGHBOUR: 'it returns false'. Refute it at one input. -/
def stageChainWrong : ChangeSpec := { name := "stageChain", fn := fun _ => fun
  | [d1, d2] => { results := [.lit (.bool false)], args := [d1, d2] }
  | _ => none }
def StageChainWrongFalsely : Prop := stageChainRow.holds Try.pinned (OpenSpec.ofChange stageChainWrong)

/-- 'vivariumlaw23.StagePicks': WHATEVER THE INPUT: true; the input reads as it did. -/
def stagePicksSpec : ChangeSpec := { name := "stagePicks", fn := fun _ => fun
  | [d1, d2, d3, d4, d5, d6] => { results := [.lit (.bool true)], args := [d1, d2, d3, d4, d5, d6] }
  | _ => none }
def stagePicksRow : OpenClaim := { program := "ytbigknmeooaidaa", sum := "5bf6097a3078e8538f597dae11dd77a72558cacb9f95d389a7f576aad56bc45b", func := "vivarium/vivariumlaw23.StagePicks", spec := "stagePicks", unfollowed := true, recurses := true, apart := false }
def StagePicksSaid : Prop := stagePicksRow.holds Try.pinned (OpenSpec.ofChange stagePicksSpec)

/-- ITS FALSE NEIGHBOUR: 'it returns false'. Refute it at one input. -/
def stagePicksWrong : ChangeSpec := { name := "stagePicks", fn := fun _ => fun
  | [d1, d2, d3, d4, d5, d6] => { results := [.lit (.bool false)], args := [d1, d2, d3, d4, d5, d6] }
  | _ => none }
def StagePicksWrongFalsely : Prop := stagePicksRow.holds Try.pinned (OpenSpec.ofChange stagePicksWrong)

/-- 'vivariumlaw21.SysConflicts': WHATEVER THE INPUT: true; the input reads as it did. -/
def sysConflictsSpec : ChangeSpec := { name := "sysConflicts", fn := fun _ => fun
  | [d1, d2] => { results := [.lit (.bool true)], args := [d1, d2] }
  | _ => none }
def sysConflictsRow : OpenClaim := { program := "ytbigknmeooaidaa", sum := "5bf6097a3078e8538f597dae11dd77a72558cacb9f95d389a7f576aad56bc45b", func := "vivarium/vivariumlaw21.SysConflicts", spec := "sysConflicts", unfollowed := true, recurses := true, apart := false }
def SysConflictsSaid : Prop := sysConflictsRow.holds Try.pinned (OpenSpec.ofChange sysConflictsSpec)

/-- ITS FALSE NEIGHBOUR: 'it returns false'. Refute it at one input. -/
def sysConflictsWrong : ChangeSpec := { name := "sysConflicts", fn := fun _ => fun
  | [d1, d2] => { results := [.lit (.bool false)], args := [d1, d2] }
  | _ => none }
def SysConflictsWrongFalsely : Prop := sysConflictsRow.holds Try.pinned (OpenSpec.ofChange sysConflictsWrong)

/-- 'vivariumlaw21.SysNeeds': WHATEVER THE INPUT: true; the input reads as it did. -/
def sysNeedsSpec : ChangeSpec := { name := "sysNeeds", fn := fun _ => fun
  | [d1, d2, d3] => { results := [.lit (.bool true)], args := [d1, d2, d3] }
  | _ => none }
def sysNeedsRow : OpenClaim := { program := "ytbigknmeooaidaa", sum := "5bf6097a3078e8538f597dae11dd77a72558cacb9f95d389a7f576aad56bc45b", func := "vivarium/vivariumlaw21.SysNeeds", spec := "sysNeeds", unfollowed := true, recurses := true, apart := false }
def SysNeedsSaid : Prop := sysNeedsRow.holds Try.pinned (OpenSpec.ofChange sysNeedsSpec)

/-- ITS FALSE NEIGHBOUR: 'it returns false'. Refute it at one input. -/
def sysNeedsWrong : ChangeSpec := { name := "sysNeeds", fn := fun _ => fun
  | [d1, d2, d3] => { results := [.lit (.bool false)], args := [d1, d2, d3] }
  | _ => none }
def SysNeedsWrongFalsely : Prop := sysNeedsRow.holds Try.pinned (OpenSpec.ofChange sysNeedsWrong)

/-- 'vivariumlaw21.SysMore': WHATEVER THE INPUT: true; the input reads as it did. -/
def sysMoreSpec : ChangeSpec := { name := "sysMore", fn := fun _ => fun
  | [d1, d2, d3] => { results := [.lit (.bool true)], args := [d1, d2, d3] }
  | _ => none }
def sysMoreRow : OpenClaim := { program := "ytbigknmeooaidaa", sum := "5bf6097a3078e8538f597dae11dd77a72558cacb9f95d389a7f576aad56bc45b", func := "vivarium/vivariumlaw21.SysMore", spec := "sysMore", unfollowed := true, recurses := true, apart := false }
def SysMoreSaid : Prop := sysMoreRow.holds Try.pinned (OpenSpec.ofChange sysMoreSpec)

/-- ITS FALSE NEIGHBOUR: 'it returns false'. Refute it at one input. -/
def sysMoreWrong : ChangeSpec := { name := "sysMore", fn := fun _ => fun
  | [d1, d2, d3] => { results := [.lit (.bool false)], args := [d1, d2, d3] }
  | _ => none }
def SysMoreWrongFalsely : Prop := sysMoreRow.holds Try.pinned (OpenSpec.ofChange sysMoreWrong)

/-- 'vivariumlaw21.SysChecks': WHATEVER THE INPUT: true; the input reads as it did. -/
def sysChecksSpec : ChangeSpec := { name := "sysChecks", fn := fun _ => fun
  | [d1, d2, d3] => { results := [.lit (.bool true)], args := [d1, d2, d3] }
  | _ => none }
def sysChecksRow : OpenClaim := { program := "ytbigknmeooaidaa", sum := "5bf6097a3078e8538f597dae11dd77a72558cacb9f95d389a7f576aad56bc45b", func := "vivarium/vivariumlaw21.SysChecks", spec := "sysChecks", unfollowed := true, recurses := true, apart := false }
def SysChecksSaid : Prop := sysChecksRow.holds Try.pinned (OpenSpec.ofChange sysChecksSpec)

/-- ITS FALSE NEIGHBOUR: 'it returns false'. Refute it at one input. -/
def sysChecksWrong : ChangeSpec := { name := "sysChecks", fn := fun _ => fun
  | [d1, d2, d3] => { results := [.lit (.bool false)], args := [d1, d2, d3] }
  | _ => none }
def SysChecksWrongFalsely : Prop := sysChecksRow.holds Try.pinned (OpenSpec.ofChange sysChecksWrong)

/- THE SECOND FORM. 'bulk': how many values and letters a reading holds, each counted each time it is reached (what is shared counts as often as it is met; a slice's spare places count too). A statement '..UptoSaid' is the law's where the arguments, and the package variables that the reading takes, are together of bulk at most 1048576: NARROWER than '..Said'. Prove '..Said' where nothing that the law and all that it calls make is longer than what came in: it says more and counts as full. Else prove '..UptoSaid'. A law counts once. -/
mutual
def uptoBulk {H : Type} : DataW H → Nat
  | .lit (.string bytes) => bytes.length + 1
  | .lit _ => 1
  | .nil => 1
  | .ptr d => uptoBulk d + 1
  | .slice elems spare => uptoBulkAll elems + uptoBulkAll spare + 1
  | .agg parts => uptoBulkAll parts + 1
  | .iface _ d => uptoBulk d + 1
  | .map entries => uptoBulkEntries entries + 1
  | .held _ => 1
def uptoBulkAll {H : Type} : List (DataW H) → Nat
  | [] => 0
  | d :: r => uptoBulk d + uptoBulkAll r
def uptoBulkEntries {H : Type} : List (Lit × DataW H) → Nat
  | [] => 0
  | x :: r => uptoBulkEntry x + uptoBulkEntries r
def uptoBulkEntry {H : Type} : Lit × DataW H → Nat
  | (.string bytes, d) => bytes.length + uptoBulk d + 1
  | (_, d) => uptoBulk d + 1
 end
def uptoSmall : (H : Type) → List (DataW H) → Bool := fun _ ds => decide (uptoBulkAll ds ≤ 1048576)
def OpenSpec.upto (s : _root_.Go.ChangeSpec) : _root_.Go.OpenSpec := { _root_.Go.OpenSpec.ofChange s with cond := some uptoSmall }

/-- 'vivariumlaw23.StageApart', WHERE WHAT IT READS IS OF BULK AT MOST 1048576: true; the input reads as it did. -/
def stageApartUptoRow : OpenClaim := { program := "ytbigknmeooaidaa", sum := "5bf6097a3078e8538f597dae11dd77a72558cacb9f95d389a7f576aad56bc45b", func := "vivarium/vivariumlaw23.StageApart", spec := "stageApart", unfollowed := true, recurses := true, apart := false, narrowed := true }
def StageApartUptoSaid : Prop := stageApartUptoRow.holds Try.pinned (OpenSpec.upto stageApartSpec)

/-- 'vivariumlaw23.StageChain', WHERE WHAT IT READS IS OF BULK AT MOST 1048576: true; the input reads as it did. -/
def stageChainUptoRow : OpenClaim := { program := "ytbigknmeooaidaa", sum := "5bf6097a3078e8538f597dae11dd77a72558cacb9f95d389a7f576aad56bc45b", func := "vivarium/vivariumlaw23.StageChain", spec := "stageChain", unfollowed := true, recurses := true, apart := false, narrowed := true }
def StageChainUptoSaid : Prop := stageChainUptoRow.holds Try.pinned (OpenSpec.upto stageChainSpec)

/-- 'vivariumlaw23.StagePicks', WHERE WHAT IT READS IS OF BULK AT MOST 1048576: true; the input reads as it did. -/
def stagePicksUptoRow : OpenClaim := { program := "ytbigknmeooaidaa", sum := "5bf6097a3078e8538f597dae11dd77a72558cacb9f95d389a7f576aad56bc45b", func := "vivarium/vivariumlaw23.StagePicks", spec := "stagePicks", unfollowed := true, recurses := true, apart := false, narrowed := true }
def StagePicksUptoSaid : Prop := stagePicksUptoRow.holds Try.pinned (OpenSpec.upto stagePicksSpec)

/-- 'vivariumlaw21.SysConflicts', WHERE WHAT IT READS IS OF BULK AT MOST 1048576: true; the input reads as it did. -/
def sysConflictsUptoRow : OpenClaim := { program := "ytbigknmeooaidaa", sum := "5bf6097a3078e8538f597dae11dd77a72558cacb9f95d389a7f576aad56bc45b", func := "vivarium/vivariumlaw21.SysConflicts", spec := "sysConflicts", unfollowed := true, recurses := true, apart := false, narrowed := true }
def SysConflictsUptoSaid : Prop := sysConflictsUptoRow.holds Try.pinned (OpenSpec.upto sysConflictsSpec)

/-- 'vivariumlaw21.SysNeeds', WHERE WHAT IT READS IS OF BULK AT MOST 1048576: true; the input reads as it did. -/
def sysNeedsUptoRow : OpenClaim := { program := "ytbigknmeooaidaa", sum := "5bf6097a3078e8538f597dae11dd77a72558cacb9f95d389a7f576aad56bc45b", func := "vivarium/vivariumlaw21.SysNeeds", spec := "sysNeeds", unfollowed := true, recurses := true, apart := false, narrowed := true }
def SysNeedsUptoSaid : Prop := sysNeedsUptoRow.holds Try.pinned (OpenSpec.upto sysNeedsSpec)

/-- 'vivariumlaw21.SysMore', WHERE WHAT IT READS IS OF BULK AT MOST 1048576: true; the input reads as it did. -/
def sysMoreUptoRow : OpenClaim := { program := "ytbigknmeooaidaa", sum := "5bf6097a3078e8538f597dae11dd77a72558cacb9f95d389a7f576aad56bc45b", func := "vivarium/vivariumlaw21.SysMore", spec := "sysMore", unfollowed := true, recurses := true, apart := false, narrowed := true }
def SysMoreUptoSaid : Prop := sysMoreUptoRow.holds Try.pinned (OpenSpec.upto sysMoreSpec)

/-- 'vivariumlaw21.SysChecks', WHERE WHAT IT READS IS OF BULK AT MOST 1048576: true; the input reads as it did. -/
def sysChecksUptoRow : OpenClaim := { program := "ytbigknmeooaidaa", sum := "5bf6097a3078e8538f597dae11dd77a72558cacb9f95d389a7f576aad56bc45b", func := "vivarium/vivariumlaw21.SysChecks", spec := "sysChecks", unfollowed := true, recurses := true, apart := false, narrowed := true }
def SysChecksUptoSaid : Prop := sysChecksUptoRow.holds Try.pinned (OpenSpec.upto sysChecksSpec)

end Rows
end Go.Proofs.Ytbigknmeooaidaa
