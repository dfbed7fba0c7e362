/-
  No cell of these rows narrows 'for every input' (looked for: loops, veiled, ifaces, maps, wideKeys, modest, calm, conditions, laid).
  DERIVED. THE GIVEN ROWS OF THIS SEAT. 5 by the template 'for every input the law returns true; each argument reads behind the call as it read before'; 0 by the template 'total and deterministic' (their statements: YtfjamllkjofdbaaTotals.lean).
  GIVEN WITH THE SEED: the statements are not yours to turn. If you find one false, say at which input.
  Laid BY PROGRAM, IN A SANDBOX (cutbox-rows.mjs): the forced cells as the released guide's own fill.sh prints them over the translation c39b641bb71fbab2… (all of the seat's roots in one cut). By AI agents, Wed Nov 11 2026. No macro, syntax, notation, axiom, sorry.
-/
import Derived.Test.YtfjamllkjofdbaaChecked
import GoSem.Claim
import GoSem.ClaimJoined
import GoSem.ClaimMapViews
import Derived.JoinedTies
import Derived.KernelRfl
namespace Go.Proofs.Ytfjamllkjofdbaa
/- THE CELL 'sum', in the pinned program and in every row, IS THE sha256 OF THE DUMP (.gsa) THAT YtfjamllkjofdbaaProg.lean LOADS. Nothing in Lean hashes anything: it is a label: what it is worth is what the hold of that sum in a sandbox is worth. -/
noncomputable def Try.pinned : Pinned := { name := "ytfjamllkjofdbaa", sum := "c39b641bb71fbab28acb809a7f77b01c3993a41f5a3d9543a01d06be5c18c12a", checked := Try.checked }
namespace Rows
def none {H : Type} : Left H := { results := [], args := [] }

/-- 'vivariumlaw22.DepsBounds': WHATEVER THE INPUT: true; the input reads as it did. -/
def depsBoundsSpec : ChangeSpec := { name := "depsBounds", fn := fun _ => fun
  | [d1, d2, d3] => { results := [.lit (.bool true)], args := [d1, d2, d3] }
  | _ => none }
def depsBoundsRow : OpenClaim := { program := "ytfjamllkjofdbaa", sum := "c39b641bb71fbab28acb809a7f77b01c3993a41f5a3d9543a01d06be5c18c12a", func := "vivarium/vivariumlaw22.DepsBounds", spec := "depsBounds", unfollowed := true, recurses := true, apart := false }
def DepsBoundsSaid : Prop := depsBoundsRow.holds Try.pinned (OpenSpec.ofChange depsBoundsSpec)

/-- ITS FALSE NEIGHBOUR: 'it returns false'. Refute it at one input. -/
def depsBoundsWrong : ChangeSpec := { name := "depsBounds", fn := fun _ => fun
  | [d1, d2, d3] => { results := [.lit (.bool false)], args := [d1, d2, d3] }
  | _ => none }
def DepsBoundsWrongFalsely : Prop := depsBoundsRow.holds Try.pinned (OpenSpec.ofChange depsBoundsWrong)

/-- 'vivariumlaw22.DepsAhead': WHATEVER THE INPUT: true; the input reads as it did. -/
def depsAheadSpec : ChangeSpec := { name := "depsAhead", fn := fun _ => fun
  | [d1, d2, d3, d4] => { results := [.lit (.bool true)], args := [d1, d2, d3, d4] }
  | _ => none }
def depsAheadRow : OpenClaim := { program := "ytfjamllkjofdbaa", sum := "c39b641bb71fbab28acb809a7f77b01c3993a41f5a3d9543a01d06be5c18c12a", func := "vivarium/vivariumlaw22.DepsAhead", spec := "depsAhead", unfollowed := true, recurses := true, apart := false }
def DepsAheadSaid : Prop := depsAheadRow.holds Try.pinned (OpenSpec.ofChange depsAheadSpec)

/-- ITS FALSE NEIGHBOUR: 'it returns false'. Refute it at one input. -/
def depsAheadWrong : ChangeSpec := { name := "depsAhead", fn := fun _ => fun
  | [d1, d2, d3, d4] => { results := [.lit (.bool false)], args := [d1, d2, d3, d4] }
  | _ => none }
def DepsAheadWrongFalsely : Prop := depsAheadRow.holds Try.pinned (OpenSpec.ofChange depsAheadWrong)

/-- 'vivariumlaw22.DepsOrder': WHATEVER THE INPUT: true; the input reads as it did. -/
def depsOrderSpec : ChangeSpec := { name := "depsOrder", fn := fun _ => fun
  | [d] => { results := [.lit (.bool true)], args := [d] }
  | _ => none }
def depsOrderRow : OpenClaim := { program := "ytfjamllkjofdbaa", sum := "c39b641bb71fbab28acb809a7f77b01c3993a41f5a3d9543a01d06be5c18c12a", func := "vivarium/vivariumlaw22.DepsOrder", spec := "depsOrder", unfollowed := true, recurses := true, apart := false }
def DepsOrderSaid : Prop := depsOrderRow.holds Try.pinned (OpenSpec.ofChange depsOrderSpec)

/-- ITS FALSE NEIGHBOUR: 'it returns false'. Refute it at one input. -/
def depsOrderWrong : ChangeSpec := { name := "depsOrder", fn := fun _ => fun
  | [d] => { results := [.lit (.bool false)], args := [d] }
  | _ => none }
def DepsOrderWrongFalsely : Prop := depsOrderRow.holds Try.pinned (OpenSpec.ofChange depsOrderWrong)

/-- 'vivariumlaw22.DepsKeeps': WHATEVER THE INPUT: true; the input reads as it did. -/
def depsKeepsSpec : ChangeSpec := { name := "depsKeeps", fn := fun _ => fun
  | [d1, d2, d3, d4, d5] => { results := [.lit (.bool true)], args := [d1, d2, d3, d4, d5] }
  | _ => none }
def depsKeepsRow : OpenClaim := { program := "ytfjamllkjofdbaa", sum := "c39b641bb71fbab28acb809a7f77b01c3993a41f5a3d9543a01d06be5c18c12a", func := "vivarium/vivariumlaw22.DepsKeeps", spec := "depsKeeps", unfollowed := true, recurses := true, apart := false }
def DepsKeepsSaid : Prop := depsKeepsRow.holds Try.pinned (OpenSpec.ofChange depsKeepsSpec)

/-- ITS FALSE NEIGHBOUR: 'it returns false'. Refute it at one input. -/
def depsKeepsWrong : ChangeSpec := { name := "depsKeeps", fn := fun _ => fun
  | [d1, d2, d3, d4, d5] => { results := [.lit (.bool false)], args := [d1, d2, d3, d4, d5] }
  | _ => none }
def DepsKeepsWrongFalsely : Prop := depsKeepsRow.holds Try.pinned (OpenSpec.ofChange depsKeepsWrong)

/-- 'vivariumlaw22.DepsLeast': WHATEVER THE INPUT: true; the input reads as it did. -/
def depsLeastSpec : ChangeSpec := { name := "depsLeast", fn := fun _ => fun
  | [d1, d2] => { results := [.lit (.bool true)], args := [d1, d2] }
  | _ => none }
def depsLeastRow : OpenClaim := { program := "ytfjamllkjofdbaa", sum := "c39b641bb71fbab28acb809a7f77b01c3993a41f5a3d9543a01d06be5c18c12a", func := "vivarium/vivariumlaw22.DepsLeast", spec := "depsLeast", unfollowed := true, recurses := true, apart := false }
def DepsLeastSaid : Prop := depsLeastRow.holds Try.pinned (OpenSpec.ofChange depsLeastSpec)

/-- ITS FALSE NEIGHBOUR: 'it returns false'. Refute it at one input. -/
def depsLeastWrong : ChangeSpec := { name := "depsLeast", fn := fun _ => fun
  | [d1, d2] => { results := [.lit (.bool false)], args := [d1, d2] }
  | _ => none }
def DepsLeastWrongFalsely : Prop := depsLeastRow.holds Try.pinned (OpenSpec.ofChange depsLeastWrong)

/- THE SECOND FORM. 'bulk': how many values and letters a reading holds, each counted each time it is reached (what is shared counts as often as it is met; a slice's spare places count too). A statement '..UptoSaid' is the law's where the arguments, and the package variables that the reading takes, are together of bulk at most 1048576: NARROWER than '..Said'. Prove '..Said' where nothing that the law and all that it calls make is longer than what came in: it says more and counts as full. Else prove '..UptoSaid'. A law counts once. -/
mutual
def uptoBulk {H : Type} : DataW H → Nat
  | .lit (.string bytes) => bytes.length + 1
  | .lit _ => 1
  | .nil => 1
  | .ptr d => uptoBulk d + 1
  | .slice elems spare => uptoBulkAll elems + uptoBulkAll spare + 1
  | .agg parts => uptoBulkAll parts + 1
  | .iface _ d => uptoBulk d + 1
  | .map entries => uptoBulkEntries entries + 1
  | .held _ => 1
def uptoBulkAll {H : Type} : List (DataW H) → Nat
  | [] => 0
  | d :: r => uptoBulk d + uptoBulkAll r
def uptoBulkEntries {H : Type} : List (Lit × DataW H) → Nat
  | [] => 0
  | x :: r => uptoBulkEntry x + uptoBulkEntries r
def uptoBulkEntry {H : Type} : Lit × DataW H → Nat
  | (.string bytes, d) => bytes.length + uptoBulk d + 1
  | (_, d) => uptoBulk d + 1
 end
def uptoSmall : (H : Type) → List (DataW H) → Bool := fun _ ds => decide (uptoBulkAll ds ≤ 1048576)
def OpenSpec.upto (s : _root_.Go.ChangeSpec) : _root_.Go.OpenSpec := { _root_.Go.OpenSpec.ofChange s with cond := some uptoSmall }

/-- 'vivariumlaw22.DepsBounds', WHERE WHAT IT READS IS OF BULK AT MOST 1048576: true; the input reads as it did. -/
def depsBoundsUptoRow : OpenClaim := { program := "ytfjamllkjofdbaa", sum := "c39b641bb71fbab28acb809a7f77b01c3993a41f5a3d9543a01d06be5c18c12a", func := "vivarium/vivariumlaw22.DepsBounds", spec := "depsBounds", unfollowed := true, recurses := true, apart := false, narrowed := true }
def DepsBoundsUptoSaid : Prop := depsBoundsUptoRow.holds Try.pinned (OpenSpec.upto depsBoundsSpec)

/-- 'vivariumlaw22.DepsAhead', WHERE WHAT IT READS IS OF BULK AT MOST 1048576: true; the input reads as it did. -/
def depsAheadUptoRow : OpenClaim := { program := "ytfjamllkjofdbaa", sum := "c39b641bb71fbab28acb809a7f77b01c3993a41f5a3d9543a01d06be5c18c12a", func := "vivarium/vivariumlaw22.DepsAhead", spec := "depsAhead", unfollowed := true, recurses := true, apart := false, narrowed := true }
def DepsAheadUptoSaid : Prop := depsAheadUptoRow.holds Try.pinned (OpenSpec.upto depsAheadSpec)

/-- 'vivariumlaw22.DepsOrder', WHERE WHAT IT READS IS OF BULK AT MOST 1048576: true; the input reads as it did. -/
def depsOrderUptoRow : OpenClaim := { program := "ytfjamllkjofdbaa", sum := "c39b641bb71fbab28acb809a7f77b01c3993a41f5a3d9543a01d06be5c18c12a", func := "vivarium/vivariumlaw22.DepsOrder", spec := "depsOrder", unfollowed := true, recurses := true, apart := false, narrowed := true }
def DepsOrderUptoSaid : Prop := depsOrderUptoRow.holds Try.pinned (OpenSpec.upto depsOrderSpec)

/-- 'vivariumlaw22.DepsKeeps', WHERE WHAT IT READS IS OF BULK AT MOST 1048576: true; the input reads as it did. -/
def depsKeepsUptoRow : OpenClaim := { program := "ytfjamllkjofdbaa", sum := "c39b641bb71fbab28acb809a7f77b01c3993a41f5a3d9543a01d06be5c18c12a", func := "vivarium/vivariumlaw22.DepsKeeps", spec := "depsKeeps", unfollowed := true, recurses := true, apart := false, narrowed := true }
def DepsKeepsUptoSaid : Prop := depsKeepsUptoRow.holds Try.pinned (OpenSpec.upto depsKeepsSpec)

/-- 'vivariumlaw22.DepsLeast', WHERE WHAT IT READS IS OF BULK AT MOST 1048576: true; the input reads as it did. -/
def depsLeastUptoRow : OpenClaim := { program := "ytfjamllkjofdbaa", sum := "c39b641bb71fbab28acb809a7f77b01c3993a41f5a3d9543a01d06be5c18c12a", func := "vivarium/vivariumlaw22.DepsLeast", spec := "depsLeast", unfollowed := true, recurses := true, apart := false, narrowed := true }
def DepsLeastUptoSaid : Prop := depsLeastUptoRow.holds Try.pinned (OpenSpec.upto depsLeastSpec)

end Rows
end Go.Proofs.Ytfjamllkjofdbaa
