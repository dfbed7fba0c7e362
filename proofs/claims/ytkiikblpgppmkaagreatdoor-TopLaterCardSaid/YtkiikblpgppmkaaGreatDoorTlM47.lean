/-
  TopLater answers true for any numbers; no condition but what the library's own table holds, which the card ties to the program's text.
-/
import Derived.Test.YtkiikblpgppmkaaGreatDoorTlM46
namespace Go.Proofs.YtkiikblpgppmkaaGreatDoor.topLater
open Go
set_option linter.unusedVariables false
set_option linter.unusedSimpArgs false
theorem wfText : Rows.topLaterRow.wfByText (OpenSpec.ofChange Rows.topLaterSpec) = true := by kernel_rfl
theorem mainIs : Tryz.prog.mainIs = some (Rows.topLaterCard.stood.harness.1, Rows.topLaterCard.stood.harness.2.toList) := by kernel_rfl
theorem looks : false = Tryz.prog.looks [] := by kernel_rfl
theorem goes : false = Rows.topLaterRow.goesBy Tryz.prog := by kernel_rfl
theorem card : Rows.TopLaterCardSaid :=
  Claim7.holds_tied_plain_at .later [] [.data] true Rows.topLaterCard.stood.harness false
    over (fun _ h => by cases h) wfText (fun _ h => by cases h) topLater_row_tie rfl ⟨rfl, rfl⟩ mainIs rfl
    (fun f fn hf hfn => by
      obtain rfl : f = 5 := Option.some.inj (named.symm.trans hf) |>.symm
      obtain rfl : fn = Tryz.f5 := (Option.some.inj (Tryz.func5.symm.trans hfn)).symm
      exact ⟨looks, fun j t ht => by
        rw [Tryz.params5] at ht
        have hm : t ∈ [3, 22, 22, 22] := by simpa using Array.mem_of_getElem? ht
        have hall : ([3, 22, 22, 22].all fun u => !Tryz.prog.wantsStandIn u) = true := by kernel_rfl
        exact (show Tryz.prog.wantsStandIn t = false by simpa using List.all_eq_true.1 hall t hm)⟩)
    goes
end Go.Proofs.YtkiikblpgppmkaaGreatDoor.topLater
namespace Go.Proofs.YtkiikblpgppmkaaGreatDoor
/-- The given statement. -/
theorem topLater_proved : Rows.TopLaterCardSaid := topLater.card
#print axioms topLater_proved
end Go.Proofs.YtkiikblpgppmkaaGreatDoor
