/-
  A statement of a function, taken out of its body by its number. No program in sight.
-/
import Derived.Test.YtcmbbkaioopkhaaBase
namespace Go.Proofs.Ytcmbbkaioopkhaa
open Go Go.RowKit
set_option linter.unusedVariables false
set_option linter.unusedSimpArgs false

def findBlock (n : Nat) : Code → Option Code
  | .block m c => if m == n then some (.block m c) else findBlock n c
  | .loop c => findBlock n c
  | .scope c => findBlock n c
  | .seq a b => match findBlock n a with
    | some c => some c
    | none => findBlock n b
  | .cond _ a b => match findBlock n a with
    | some c => some c
    | none => findBlock n b
  | _ => none
end Go.Proofs.Ytcmbbkaioopkhaa
