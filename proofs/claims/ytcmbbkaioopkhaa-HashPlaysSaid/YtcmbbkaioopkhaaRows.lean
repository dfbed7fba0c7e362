/-
  No cell of these rows narrows 'for every input' (looked for: loops, veiled, ifaces, maps, wideKeys, modest, calm, conditions, laid).
  DERIVED. THE GIVEN ROWS OF THIS SEAT. 9 by the template 'for every input the law returns true; each argument reads behind the call as it read before'; 0 by the template 'total and deterministic' (their statements: YtcmbbkaioopkhaaTotals.lean).
  GIVEN WITH THE SEED: the statements are not yours to turn. If you find one false, say at which input.
  Laid BY PROGRAM, IN A SANDBOX (cutbox-rows.mjs): the forced cells as the released guide's own fill.sh prints them over the translation 9a5243dbb1a95809… (all of the seat's roots in one cut). By AI agents, Wed Nov 11 2026. No macro, syntax, notation, axiom, sorry.
-/
import Derived.Test.YtcmbbkaioopkhaaChecked
import GoSem.Claim
import GoSem.ClaimJoined
import GoSem.ClaimMapViews
import Derived.JoinedTies
import Derived.KernelRfl
namespace Go.Proofs.Ytcmbbkaioopkhaa
/- THE CELL 'sum', in the pinned program and in every row, IS THE sha256 OF THE DUMP (.gsa) THAT YtcmbbkaioopkhaaProg.lean LOADS. Nothing in Lean hashes anything: it is a label: what it is worth is what the hold of that sum in a sandbox is worth. -/
noncomputable def Try.pinned : Pinned := { name := "ytcmbbkaioopkhaa", sum := "9a5243dbb1a95809638a675480fc764297c4d6c7d44e1a824bec4189fef006b1", checked := Try.checked }
namespace Rows
def none {H : Type} : Left H := { results := [], args := [] }

/-- 'vivariumlaw9.HashHomes': WHATEVER THE INPUT: true; the input reads as it did. -/
def hashHomesSpec : ChangeSpec := { name := "hashHomes", fn := fun _ => fun
  | [d1, d2] => { results := [.lit (.bool true)], args := [d1, d2] }
  | _ => none }
def hashHomesRow : OpenClaim := { program := "ytcmbbkaioopkhaa", sum := "9a5243dbb1a95809638a675480fc764297c4d6c7d44e1a824bec4189fef006b1", func := "vivarium/vivariumlaw9.HashHomes", spec := "hashHomes", apart := false }
def HashHomesSaid : Prop := hashHomesRow.holds Try.pinned (OpenSpec.ofChange hashHomesSpec)

/-- ITS FALSE NEIGHBOUR: 'it returns false'. Refute it at one input. -/
def hashHomesWrong : ChangeSpec := { name := "hashHomes", fn := fun _ => fun
  | [d1, d2] => { results := [.lit (.bool false)], args := [d1, d2] }
  | _ => none }
def HashHomesWrongFalsely : Prop := hashHomesRow.holds Try.pinned (OpenSpec.ofChange hashHomesWrong)

/-- 'vivariumlaw10.FlagAlone': WHATEVER THE INPUT: true; the input reads as it did. -/
def flagAloneSpec : ChangeSpec := { name := "flagAlone", fn := fun _ => fun
  | [d1, d2] => { results := [.lit (.bool true)], args := [d1, d2] }
  | _ => none }
def flagAloneRow : OpenClaim := { program := "ytcmbbkaioopkhaa", sum := "9a5243dbb1a95809638a675480fc764297c4d6c7d44e1a824bec4189fef006b1", func := "vivarium/vivariumlaw10.FlagAlone", spec := "flagAlone", unfollowed := true, recurses := true, apart := false }
def FlagAloneSaid : Prop := flagAloneRow.holds Try.pinned (OpenSpec.ofChange flagAloneSpec)

/-- ITS FALSE NEIGHBOUR: 'it returns false'. Refute it at one input. -/
def flagAloneWrong : ChangeSpec := { name := "flagAlone", fn := fun _ => fun
  | [d1, d2] => { results := [.lit (.bool false)], args := [d1, d2] }
  | _ => none }
def FlagAloneWrongFalsely : Prop := flagAloneRow.holds Try.pinned (OpenSpec.ofChange flagAloneWrong)

/-- 'vivariumlaw10.FlagParts': WHATEVER THE INPUT: true; the input reads as it did. -/
def flagPartsSpec : ChangeSpec := { name := "flagParts", fn := fun _ => fun
  | [d1, d2, d3] => { results := [.lit (.bool true)], args := [d1, d2, d3] }
  | _ => none }
def flagPartsRow : OpenClaim := { program := "ytcmbbkaioopkhaa", sum := "9a5243dbb1a95809638a675480fc764297c4d6c7d44e1a824bec4189fef006b1", func := "vivarium/vivariumlaw10.FlagParts", spec := "flagParts", unfollowed := true, recurses := true, apart := false }
def FlagPartsSaid : Prop := flagPartsRow.holds Try.pinned (OpenSpec.ofChange flagPartsSpec)

/-- ITS FALSE NEIGHBOUR: 'it returns false'. Refute it at one input. -/
def flagPartsWrong : ChangeSpec := { name := "flagParts", fn := fun _ => fun
  | [d1, d2, d3] => { results := [.lit (.bool false)], args := [d1, d2, d3] }
  | _ => none }
def FlagPartsWrongFalsely : Prop := flagPartsRow.holds Try.pinned (OpenSpec.ofChange flagPartsWrong)

/-- 'vivariumlaw10.FlagPlays': WHATEVER THE INPUT: true; the input reads as it did. -/
def flagPlaysSpec : ChangeSpec := { name := "flagPlays", fn := fun _ => fun
  | [d1, d2] => { results := [.lit (.bool true)], args := [d1, d2] }
  | _ => none }
def flagPlaysRow : OpenClaim := { program := "ytcmbbkaioopkhaa", sum := "9a5243dbb1a95809638a675480fc764297c4d6c7d44e1a824bec4189fef006b1", func := "vivarium/vivariumlaw10.FlagPlays", spec := "flagPlays", unfollowed := true, recurses := true, apart := false }
def FlagPlaysSaid : Prop := flagPlaysRow.holds Try.pinned (OpenSpec.ofChange flagPlaysSpec)

/-- ITS FALSE NEIGHBOUR: 'it returns false'. Refute it at one input. -/
def flagPlaysWrong : ChangeSpec := { name := "flagPlays", fn := fun _ => fun
  | [d1, d2] => { results := [.lit (.bool false)], args := [d1, d2] }
  | _ => none }
def FlagPlaysWrongFalsely : Prop := flagPlaysRow.holds Try.pinned (OpenSpec.ofChange flagPlaysWrong)

/-- 'vivariumlaw10.FlagBounds': WHATEVER THE INPUT: true; the input reads as it did. -/
def flagBoundsSpec : ChangeSpec := { name := "flagBounds", fn := fun _ => fun
  | [d1, d2] => { results := [.lit (.bool true)], args := [d1, d2] }
  | _ => none }
def flagBoundsRow : OpenClaim := { program := "ytcmbbkaioopkhaa", sum := "9a5243dbb1a95809638a675480fc764297c4d6c7d44e1a824bec4189fef006b1", func := "vivarium/vivariumlaw10.FlagBounds", spec := "flagBounds", unfollowed := true, recurses := true, apart := false }
def FlagBoundsSaid : Prop := flagBoundsRow.holds Try.pinned (OpenSpec.ofChange flagBoundsSpec)

/-- ITS FALSE NEIGHBOUR: 'it returns false'. Refute it at one input. -/
def flagBoundsWrong : ChangeSpec := { name := "flagBounds", fn := fun _ => fun
  | [d1, d2] => { results := [.lit (.bool false)], args := [d1, d2] }
  | _ => none }
def FlagBoundsWrongFalsely : Prop := flagBoundsRow.holds Try.pinned (OpenSpec.ofChange flagBoundsWrong)

/-- 'vivariumlaw9.HashPlays': WHATEVER THE INPUT: true; the input reads as it did. -/
def hashPlaysSpec : ChangeSpec := { name := "hashPlays", fn := fun _ => fun
  | [d] => { results := [.lit (.bool true)], args := [d] }
  | _ => none }
def hashPlaysRow : OpenClaim := { program := "ytcmbbkaioopkhaa", sum := "9a5243dbb1a95809638a675480fc764297c4d6c7d44e1a824bec4189fef006b1", func := "vivarium/vivariumlaw9.HashPlays", spec := "hashPlays", apart := false }
def HashPlaysSaid : Prop := hashPlaysRow.holds Try.pinned (OpenSpec.ofChange hashPlaysSpec)

/-- ITS FALSE NEIGHBOUR: 'it returns false'. Refute it at one input. -/
def hashPlaysWrong : ChangeSpec := { name := "hashPlays", fn := fun _ => fun
  | [d] => { results := [.lit (.bool false)], args := [d] }
  | _ => none }
def HashPlaysWrongFalsely : Prop := hashPlaysRow.holds Try.pinned (OpenSpec.ofChange hashPlaysWrong)

/-- 'vivariumlaw9.HashMany': WHATEVER THE INPUT: true; the input reads as it did. -/
def hashManySpec : ChangeSpec := { name := "hashMany", fn := fun _ => fun
  | [d1, d2, d3] => { results := [.lit (.bool true)], args := [d1, d2, d3] }
  | _ => none }
def hashManyRow : OpenClaim := { program := "ytcmbbkaioopkhaa", sum := "9a5243dbb1a95809638a675480fc764297c4d6c7d44e1a824bec4189fef006b1", func := "vivarium/vivariumlaw9.HashMany", spec := "hashMany", apart := false }
def HashManySaid : Prop := hashManyRow.holds Try.pinned (OpenSpec.ofChange hashManySpec)

/-- ITS FALSE NEIGHBOUR: 'it returns false'. Refute it at one input. -/
def hashManyWrong : ChangeSpec := { name := "hashMany", fn := fun _ => fun
  | [d1, d2, d3] => { results := [.lit (.bool false)], args := [d1, d2, d3] }
  | _ => none }
def HashManyWrongFalsely : Prop := hashManyRow.holds Try.pinned (OpenSpec.ofChange hashManyWrong)

/-- 'vivariumlaw9.HashBack': WHATEVER THE INPUT: true; the input reads as it did. -/
def hashBackSpec : ChangeSpec := { name := "hashBack", fn := fun _ => fun
  | [d] => { results := [.lit (.bool true)], args := [d] }
  | _ => none }
def hashBackRow : OpenClaim := { program := "ytcmbbkaioopkhaa", sum := "9a5243dbb1a95809638a675480fc764297c4d6c7d44e1a824bec4189fef006b1", func := "vivarium/vivariumlaw9.HashBack", spec := "hashBack", apart := false }
def HashBackSaid : Prop := hashBackRow.holds Try.pinned (OpenSpec.ofChange hashBackSpec)

/-- ITS FALSE NEIGHBOUR: 'it returns false'. Refute it at one input. -/
def hashBackWrong : ChangeSpec := { name := "hashBack", fn := fun _ => fun
  | [d] => { results := [.lit (.bool false)], args := [d] }
  | _ => none }
def HashBackWrongFalsely : Prop := hashBackRow.holds Try.pinned (OpenSpec.ofChange hashBackWrong)

/-- 'vivariumlaw9.HashSlots': WHATEVER THE INPUT: true; the input reads as it did. -/
def hashSlotsSpec : ChangeSpec := { name := "hashSlots", fn := fun _ => fun
  | [d] => { results := [.lit (.bool true)], args := [d] }
  | _ => none }
def hashSlotsRow : OpenClaim := { program := "ytcmbbkaioopkhaa", sum := "9a5243dbb1a95809638a675480fc764297c4d6c7d44e1a824bec4189fef006b1", func := "vivarium/vivariumlaw9.HashSlots", spec := "hashSlots", apart := false }
def HashSlotsSaid : Prop := hashSlotsRow.holds Try.pinned (OpenSpec.ofChange hashSlotsSpec)

/-- ITS FALSE NEIGHBOUR: 'it returns false'. Refute it at one input. -/
def hashSlotsWrong : ChangeSpec := { name := "hashSlots", fn := fun _ => fun
  | [d] => { results := [.lit (.bool false)], args := [d] }
  | _ => none }
def HashSlotsWrongFalsely : Prop := hashSlotsRow.holds Try.pinned (OpenSpec.ofChange hashSlotsWrong)

/- THE SECOND FORM. 'bulk': how many values and letters a reading holds, each counted each time it is reached (what is shared counts as often as it is met; a slice's spare places count too). A statement '..UptoSaid' is the law's where the arguments, and the package variables that the reading takes, are together of bulk at most 1048576: NARROWER than '..Said'. Prove '..Said' where nothing that the law and all that it calls make is longer than what came in: it says more and counts as full. Else prove '..UptoSaid'. A law counts once. -/
mutual
def uptoBulk {H : Type} : DataW H → Nat
  | .lit (.string bytes) => bytes.length + 1
  | .lit _ => 1
  | .nil => 1
  | .ptr d => uptoBulk d + 1
  | .slice elems spare => uptoBulkAll elems + uptoBulkAll spare + 1
  | .agg parts => uptoBulkAll parts + 1
  | .iface _ d => uptoBulk d + 1
  | .map entries => uptoBulkEntries entries + 1
  | .held _ => 1
def uptoBulkAll {H : Type} : List (DataW H) → Nat
  | [] => 0
  | d :: r => uptoBulk d + uptoBulkAll r
def uptoBulkEntries {H : Type} : List (Lit × DataW H) → Nat
  | [] => 0
  | x :: r => uptoBulkEntry x + uptoBulkEntries r
def uptoBulkEntry {H : Type} : Lit × DataW H → Nat
  | (.string bytes, d) => bytes.length + uptoBulk d + 1
  | (_, d) => uptoBulk d + 1
 end
def uptoSmall : (H : Type) → List (DataW H) → Bool := fun _ ds => decide (uptoBulkAll ds ≤ 1048576)
def OpenSpec.upto (s : _root_.Go.ChangeSpec) : _root_.Go.OpenSpec := { _root_.Go.OpenSpec.ofChange s with cond := some uptoSmall }

/-- 'vivariumlaw9.HashHomes', WHERE WHAT IT READS IS OF BULK AT MOST 1048576: true; the input reads as it did. -/
def hashHomesUptoRow : OpenClaim := { program := "ytcmbbkaioopkhaa", sum := "9a5243dbb1a95809638a675480fc764297c4d6c7d44e1a824bec4189fef006b1", func := "vivarium/vivariumlaw9.HashHomes", spec := "hashHomes", apart := false, narrowed := true }
def HashHomesUptoSaid : Prop := hashHomesUptoRow.holds Try.pinned (OpenSpec.upto hashHomesSpec)

/-- 'vivariumlaw10.FlagAlone', WHERE WHAT IT READS IS OF BULK AT MOST 1048576: true; the input reads as it did. -/
def flagAloneUptoRow : OpenClaim := { program := "ytcmbbkaioopkhaa", sum := "9a5243dbb1a95809638a675480fc764297c4d6c7d44e1a824bec4189fef006b1", func := "vivarium/vivariumlaw10.FlagAlone", spec := "flagAlone", unfollowed := true, recurses := true, apart := false, narrowed := true }
def FlagAloneUptoSaid : Prop := flagAloneUptoRow.holds Try.pinned (OpenSpec.upto flagAloneSpec)

/-- 'vivariumlaw10.FlagParts', WHERE WHAT IT READS IS OF BULK AT MOST 1048576: true; the input reads as it did. -/
def flagPartsUptoRow : OpenClaim := { program := "ytcmbbkaioopkhaa", sum := "9a5243dbb1a95809638a675480fc764297c4d6c7d44e1a824bec4189fef006b1", func := "vivarium/vivariumlaw10.FlagParts", spec := "flagParts", unfollowed := true, recurses := true, apart := false, narrowed := true }
def FlagPartsUptoSaid : Prop := flagPartsUptoRow.holds Try.pinned (OpenSpec.upto flagPartsSpec)

/-- 'vivariumlaw10.FlagPlays', WHERE WHAT IT READS IS OF BULK AT MOST 1048576: true; the input reads as it did. -/
def flagPlaysUptoRow : OpenClaim := { program := "ytcmbbkaioopkhaa", sum := "9a5243dbb1a95809638a675480fc764297c4d6c7d44e1a824bec4189fef006b1", func := "vivarium/vivariumlaw10.FlagPlays", spec := "flagPlays", unfollowed := true, recurses := true, apart := false, narrowed := true }
def FlagPlaysUptoSaid : Prop := flagPlaysUptoRow.holds Try.pinned (OpenSpec.upto flagPlaysSpec)

/-- 'vivariumlaw10.FlagBounds', WHERE WHAT IT READS IS OF BULK AT MOST 1048576: true; the input reads as it did. -/
def flagBoundsUptoRow : OpenClaim := { program := "ytcmbbkaioopkhaa", sum := "9a5243dbb1a95809638a675480fc764297c4d6c7d44e1a824bec4189fef006b1", func := "vivarium/vivariumlaw10.FlagBounds", spec := "flagBounds", unfollowed := true, recurses := true, apart := false, narrowed := true }
def FlagBoundsUptoSaid : Prop := flagBoundsUptoRow.holds Try.pinned (OpenSpec.upto flagBoundsSpec)

/-- 'vivariumlaw9.HashPlays', WHERE WHAT IT READS IS OF BULK AT MOST 1048576: true; the input reads as it did. -/
def hashPlaysUptoRow : OpenClaim := { program := "ytcmbbkaioopkhaa", sum := "9a5243dbb1a95809638a675480fc764297c4d6c7d44e1a824bec4189fef006b1", func := "vivarium/vivariumlaw9.HashPlays", spec := "hashPlays", apart := false, narrowed := true }
def HashPlaysUptoSaid : Prop := hashPlaysUptoRow.holds Try.pinned (OpenSpec.upto hashPlaysSpec)

/-- 'vivariumlaw9.HashMany', WHERE WHAT IT READS IS OF BULK AT MOST 1048576: true; the input reads as it did. -/
def hashManyUptoRow : OpenClaim := { program := "ytcmbbkaioopkhaa", sum := "9a5243dbb1a95809638a675480fc764297c4d6c7d44e1a824bec4189fef006b1", func := "vivarium/vivariumlaw9.HashMany", spec := "hashMany", apart := false, narrowed := true }
def HashManyUptoSaid : Prop := hashManyUptoRow.holds Try.pinned (OpenSpec.upto hashManySpec)

/-- 'vivariumlaw9.HashBack', WHERE WHAT IT READS IS OF BULK AT MOST 1048576: true; the input reads as it did. -/
def hashBackUptoRow : OpenClaim := { program := "ytcmbbkaioopkhaa", sum := "9a5243dbb1a95809638a675480fc764297c4d6c7d44e1a824bec4189fef006b1", func := "vivarium/vivariumlaw9.HashBack", spec := "hashBack", apart := false, narrowed := true }
def HashBackUptoSaid : Prop := hashBackUptoRow.holds Try.pinned (OpenSpec.upto hashBackSpec)

/-- 'vivariumlaw9.HashSlots', WHERE WHAT IT READS IS OF BULK AT MOST 1048576: true; the input reads as it did. -/
def hashSlotsUptoRow : OpenClaim := { program := "ytcmbbkaioopkhaa", sum := "9a5243dbb1a95809638a675480fc764297c4d6c7d44e1a824bec4189fef006b1", func := "vivarium/vivariumlaw9.HashSlots", spec := "hashSlots", apart := false, narrowed := true }
def HashSlotsUptoSaid : Prop := hashSlotsUptoRow.holds Try.pinned (OpenSpec.upto hashSlotsSpec)

end Rows
end Go.Proofs.Ytcmbbkaioopkhaa
