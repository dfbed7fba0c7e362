/-
  No cell of these rows narrows 'for every input' (looked for: loops, veiled, ifaces, maps, wideKeys, modest, calm, conditions, laid).
  DERIVED. THE GIVEN ROWS OF THIS SEAT. 7 by the template 'for every input the law returns true; each argument reads behind the call as it read before'; 0 by the template 'total and deterministic' (their statements: YtnadfefjmoibeaaTotals.lean).
  GIVEN WITH THE SEED: the statements are not yours to turn. If you find one false, say at which input.
  Laid BY PROGRAM, IN A SANDBOX (cutbox-rows.mjs): the forced cells as the released guide's own fill.sh prints them over the translation 2e438e4d9ed0559b… (all of the seat's roots in one cut). By AI agents, Wed Nov 11 2026. No macro, syntax, notation, axiom, sorry.
-/
import Derived.Test.YtnadfefjmoibeaaChecked
import GoSem.Claim
import GoSem.ClaimJoined
import GoSem.ClaimMapViews
import Derived.JoinedTies
import Derived.KernelRfl
namespace Go.Proofs.Ytnadfefjmoibeaa
/- THE CELL 'sum', in the pinned program and in every row, IS THE sha256 OF THE DUMP (.gsa) THAT YtnadfefjmoibeaaProg.lean LOADS. Nothing in Lean hashes anything: it is a label: what it is worth is what the hold of that sum in a sandbox is worth. -/
noncomputable def Try.pinned : Pinned := { name := "ytnadfefjmoibeaa", sum := "2e438e4d9ed0559b1c27ad06f92175a01a1eec3d4f092929f322d7ef45747917", checked := Try.checked }
namespace Rows
def none {H : Type} : Left H := { results := [], args := [] }

/-- 'vivariumlaw13.ResLent': WHATEVER THE INPUT: true; the input reads as it did. -/
def resLentSpec : ChangeSpec := { name := "resLent", fn := fun _ => fun
  | [d1, d2] => { results := [.lit (.bool true)], args := [d1, d2] }
  | _ => none }
def resLentRow : OpenClaim := { program := "ytnadfefjmoibeaa", sum := "2e438e4d9ed0559b1c27ad06f92175a01a1eec3d4f092929f322d7ef45747917", func := "vivarium/vivariumlaw13.ResLent", spec := "resLent", apart := false }
def ResLentSaid : Prop := resLentRow.holds Try.pinned (OpenSpec.ofChange resLentSpec)

/-- ITS FALSE NEIGHBOUR: 'it returns false'. Refute it at one input. -/
def resLentWrong : ChangeSpec := { name := "resLent", fn := fun _ => fun
  | [d1, d2] => { results := [.lit (.bool false)], args := [d1, d2] }
  | _ => none }
def ResLentWrongFalsely : Prop := resLentRow.holds Try.pinned (OpenSpec.ofChange resLentWrong)

/-- 'vivariumlaw13.ResApart': WHATEVER THE INPUT: true; the input reads as it did. -/
def resApartSpec : ChangeSpec := { name := "resApart", fn := fun _ => fun
  | [d1, d2, d3, d4, d5] => { results := [.lit (.bool true)], args := [d1, d2, d3, d4, d5] }
  | _ => none }
def resApartRow : OpenClaim := { program := "ytnadfefjmoibeaa", sum := "2e438e4d9ed0559b1c27ad06f92175a01a1eec3d4f092929f322d7ef45747917", func := "vivarium/vivariumlaw13.ResApart", spec := "resApart", apart := false }
def ResApartSaid : Prop := resApartRow.holds Try.pinned (OpenSpec.ofChange resApartSpec)

/-- ITS FALSE NEIGHBOUR: 'it returns false'. Refute it at one input. -/
def resApartWrong : ChangeSpec := { name := "resApart", fn := fun _ => fun
  | [d1, d2, d3, d4, d5] => { results := [.lit (.bool false)], args := [d1, d2, d3, d4, d5] }
  | _ => none }
def ResApartWrongFalsely : Prop := resApartRow.holds Try.pinned (OpenSpec.ofChange resApartWrong)

/-- 'vivariumlaw13.ResPlays': WHATEVER THE INPUT: true; the input reads as it did. -/
def resPlaysSpec : ChangeSpec := { name := "resPlays", fn := fun _ => fun
  | [d1, d2] => { results := [.lit (.bool true)], args := [d1, d2] }
  | _ => none }
def resPlaysRow : OpenClaim := { program := "ytnadfefjmoibeaa", sum := "2e438e4d9ed0559b1c27ad06f92175a01a1eec3d4f092929f322d7ef45747917", func := "vivarium/vivariumlaw13.ResPlays", spec := "resPlays", apart := false }
def ResPlaysSaid : Prop := resPlaysRow.holds Try.pinned (OpenSpec.ofChange resPlaysSpec)

/-- ITS FALSE NEIGHBOUR: 'it returns false'. Refute it at one input. -/
def resPlaysWrong : ChangeSpec := { name := "resPlays", fn := fun _ => fun
  | [d1, d2] => { results := [.lit (.bool false)], args := [d1, d2] }
  | _ => none }
def ResPlaysWrongFalsely : Prop := resPlaysRow.holds Try.pinned (OpenSpec.ofChange resPlaysWrong)

/-- 'vivariumlaw14.LazyOks': WHATEVER THE INPUT: true; the input reads as it did. -/
def lazyOksSpec : ChangeSpec := { name := "lazyOks", fn := fun _ => fun
  | [d] => { results := [.lit (.bool true)], args := [d] }
  | _ => none }
def lazyOksRow : OpenClaim := { program := "ytnadfefjmoibeaa", sum := "2e438e4d9ed0559b1c27ad06f92175a01a1eec3d4f092929f322d7ef45747917", func := "vivarium/vivariumlaw14.LazyOks", spec := "lazyOks", unfollowed := true, recurses := true, apart := false }
def LazyOksSaid : Prop := lazyOksRow.holds Try.pinned (OpenSpec.ofChange lazyOksSpec)

/-- ITS FALSE NEIGHBOUR: 'it returns false'. Refute it at one input. -/
def lazyOksWrong : ChangeSpec := { name := "lazyOks", fn := fun _ => fun
  | [d] => { results := [.lit (.bool false)], args := [d] }
  | _ => none }
def LazyOksWrongFalsely : Prop := lazyOksRow.holds Try.pinned (OpenSpec.ofChange lazyOksWrong)

/-- 'vivariumlaw14.LazyBounds': WHATEVER THE INPUT: true; the input reads as it did. -/
def lazyBoundsSpec : ChangeSpec := { name := "lazyBounds", fn := fun _ => fun
  | [d1, d2] => { results := [.lit (.bool true)], args := [d1, d2] }
  | _ => none }
def lazyBoundsRow : OpenClaim := { program := "ytnadfefjmoibeaa", sum := "2e438e4d9ed0559b1c27ad06f92175a01a1eec3d4f092929f322d7ef45747917", func := "vivarium/vivariumlaw14.LazyBounds", spec := "lazyBounds", unfollowed := true, recurses := true, apart := false }
def LazyBoundsSaid : Prop := lazyBoundsRow.holds Try.pinned (OpenSpec.ofChange lazyBoundsSpec)

/-- ITS FALSE NEIGHBOUR: 'it returns false'. Refute it at one input. -/
def lazyBoundsWrong : ChangeSpec := { name := "lazyBounds", fn := fun _ => fun
  | [d1, d2] => { results := [.lit (.bool false)], args := [d1, d2] }
  | _ => none }
def LazyBoundsWrongFalsely : Prop := lazyBoundsRow.holds Try.pinned (OpenSpec.ofChange lazyBoundsWrong)

/-- 'vivariumlaw14.LazyJoins': WHATEVER THE INPUT: true; the input reads as it did. -/
def lazyJoinsSpec : ChangeSpec := { name := "lazyJoins", fn := fun _ => fun
  | [d1, d2, d3] => { results := [.lit (.bool true)], args := [d1, d2, d3] }
  | _ => none }
def lazyJoinsRow : OpenClaim := { program := "ytnadfefjmoibeaa", sum := "2e438e4d9ed0559b1c27ad06f92175a01a1eec3d4f092929f322d7ef45747917", func := "vivarium/vivariumlaw14.LazyJoins", spec := "lazyJoins", unfollowed := true, recurses := true, apart := false }
def LazyJoinsSaid : Prop := lazyJoinsRow.holds Try.pinned (OpenSpec.ofChange lazyJoinsSpec)

/-- ITS FALSE NEIGHBOUR: 'it returns false'. Refute it at one input. -/
def lazyJoinsWrong : ChangeSpec := { name := "lazyJoins", fn := fun _ => fun
  | [d1, d2, d3] => { results := [.lit (.bool false)], args := [d1, d2, d3] }
  | _ => none }
def LazyJoinsWrongFalsely : Prop := lazyJoinsRow.holds Try.pinned (OpenSpec.ofChange lazyJoinsWrong)

/-- 'vivariumlaw14.LazyPlays': WHATEVER THE INPUT: true; the input reads as it did. -/
def lazyPlaysSpec : ChangeSpec := { name := "lazyPlays", fn := fun _ => fun
  | [d] => { results := [.lit (.bool true)], args := [d] }
  | _ => none }
def lazyPlaysRow : OpenClaim := { program := "ytnadfefjmoibeaa", sum := "2e438e4d9ed0559b1c27ad06f92175a01a1eec3d4f092929f322d7ef45747917", func := "vivarium/vivariumlaw14.LazyPlays", spec := "lazyPlays", unfollowed := true, recurses := true, apart := false }
def LazyPlaysSaid : Prop := lazyPlaysRow.holds Try.pinned (OpenSpec.ofChange lazyPlaysSpec)

/-- ITS FALSE NEIGHBOUR: 'it returns false'. Refute it at one input. -/
def lazyPlaysWrong : ChangeSpec := { name := "lazyPlays", fn := fun _ => fun
  | [d] => { results := [.lit (.bool false)], args := [d] }
  | _ => none }
def LazyPlaysWrongFalsely : Prop := lazyPlaysRow.holds Try.pinned (OpenSpec.ofChange lazyPlaysWrong)

/- THE SECOND FORM. 'bulk': how many values and letters a reading holds, each counted each time it is reached (what is shared counts as often as it is met; a slice's spare places count too). A statement '..UptoSaid' is the law's where the arguments, and the package variables that the reading takes, are together of bulk at most 1048576: NARROWER than '..Said'. Prove '..Said' where nothing that the law and all that it calls make is longer than what came in: it says more and counts as full. Else prove '..UptoSaid'. A law counts once. -/
mutual
def uptoBulk {H : Type} : DataW H → Nat
  | .lit (.string bytes) => bytes.length + 1
  | .lit _ => 1
  | .nil => 1
  | .ptr d => uptoBulk d + 1
  | .slice elems spare => uptoBulkAll elems + uptoBulkAll spare + 1
  | .agg parts => uptoBulkAll parts + 1
  | .iface _ d => uptoBulk d + 1
  | .map entries => uptoBulkEntries entries + 1
  | .held _ => 1
def uptoBulkAll {H : Type} : List (DataW H) → Nat
  | [] => 0
  | d :: r => uptoBulk d + uptoBulkAll r
def uptoBulkEntries {H : Type} : List (Lit × DataW H) → Nat
  | [] => 0
  | x :: r => uptoBulkEntry x + uptoBulkEntries r
def uptoBulkEntry {H : Type} : Lit × DataW H → Nat
  | (.string bytes, d) => bytes.length + uptoBulk d + 1
  | (_, d) => uptoBulk d + 1
 end
def uptoSmall : (H : Type) → List (DataW H) → Bool := fun _ ds => decide (uptoBulkAll ds ≤ 1048576)
def OpenSpec.upto (s : _root_.Go.ChangeSpec) : _root_.Go.OpenSpec := { _root_.Go.OpenSpec.ofChange s with cond := some uptoSmall }

/-- 'vivariumlaw13.ResLent', WHERE WHAT IT READS IS OF BULK AT MOST 1048576: true; the input reads as it did. -/
def resLentUptoRow : OpenClaim := { program := "ytnadfefjmoibeaa", sum := "2e438e4d9ed0559b1c27ad06f92175a01a1eec3d4f092929f322d7ef45747917", func := "vivarium/vivariumlaw13.ResLent", spec := "resLent", apart := false, narrowed := true }
def ResLentUptoSaid : Prop := resLentUptoRow.holds Try.pinned (OpenSpec.upto resLentSpec)

/-- 'vivariumlaw13.ResApart', WHERE WHAT IT READS IS OF BULK AT MOST 1048576: true; the input reads as it did. -/
def resApartUptoRow : OpenClaim := { program := "ytnadfefjmoibeaa", sum := "2e438e4d9ed0559b1c27ad06f92175a01a1eec3d4f092929f322d7ef45747917", func := "vivarium/vivariumlaw13.ResApart", spec := "resApart", apart := false, narrowed := true }
def ResApartUptoSaid : Prop := resApartUptoRow.holds Try.pinned (OpenSpec.upto resApartSpec)

/-- 'vivariumlaw13.ResPlays', WHERE WHAT IT READS IS OF BULK AT MOST 1048576: true; the input reads as it did. -/
def resPlaysUptoRow : OpenClaim := { program := "ytnadfefjmoibeaa", sum := "2e438e4d9ed0559b1c27ad06f92175a01a1eec3d4f092929f322d7ef45747917", func := "vivarium/vivariumlaw13.ResPlays", spec := "resPlays", apart := false, narrowed := true }
def ResPlaysUptoSaid : Prop := resPlaysUptoRow.holds Try.pinned (OpenSpec.upto resPlaysSpec)

/-- 'vivariumlaw14.LazyOks', WHERE WHAT IT READS IS OF BULK AT MOST 1048576: true; the input reads as it did. -/
def lazyOksUptoRow : OpenClaim := { program := "ytnadfefjmoibeaa", sum := "2e438e4d9ed0559b1c27ad06f92175a01a1eec3d4f092929f322d7ef45747917", func := "vivarium/vivariumlaw14.LazyOks", spec := "lazyOks", unfollowed := true, recurses := true, apart := false, narrowed := true }
def LazyOksUptoSaid : Prop := lazyOksUptoRow.holds Try.pinned (OpenSpec.upto lazyOksSpec)

/-- 'vivariumlaw14.LazyBounds', WHERE WHAT IT READS IS OF BULK AT MOST 1048576: true; the input reads as it did. -/
def lazyBoundsUptoRow : OpenClaim := { program := "ytnadfefjmoibeaa", sum := "2e438e4d9ed0559b1c27ad06f92175a01a1eec3d4f092929f322d7ef45747917", func := "vivarium/vivariumlaw14.LazyBounds", spec := "lazyBounds", unfollowed := true, recurses := true, apart := false, narrowed := true }
def LazyBoundsUptoSaid : Prop := lazyBoundsUptoRow.holds Try.pinned (OpenSpec.upto lazyBoundsSpec)

/-- 'vivariumlaw14.LazyJoins', WHERE WHAT IT READS IS OF BULK AT MOST 1048576: true; the input reads as it did. -/
def lazyJoinsUptoRow : OpenClaim := { program := "ytnadfefjmoibeaa", sum := "2e438e4d9ed0559b1c27ad06f92175a01a1eec3d4f092929f322d7ef45747917", func := "vivarium/vivariumlaw14.LazyJoins", spec := "lazyJoins", unfollowed := true, recurses := true, apart := false, narrowed := true }
def LazyJoinsUptoSaid : Prop := lazyJoinsUptoRow.holds Try.pinned (OpenSpec.upto lazyJoinsSpec)

/-- 'vivariumlaw14.LazyPlays', WHERE WHAT IT READS IS OF BULK AT MOST 1048576: true; the input reads as it did. -/
def lazyPlaysUptoRow : OpenClaim := { program := "ytnadfefjmoibeaa", sum := "2e438e4d9ed0559b1c27ad06f92175a01a1eec3d4f092929f322d7ef45747917", func := "vivarium/vivariumlaw14.LazyPlays", spec := "lazyPlays", unfollowed := true, recurses := true, apart := false, narrowed := true }
def LazyPlaysUptoSaid : Prop := lazyPlaysUptoRow.holds Try.pinned (OpenSpec.upto lazyPlaysSpec)

end Rows
end Go.Proofs.Ytnadfefjmoibeaa
