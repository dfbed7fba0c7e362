/-
  TopSpent answers true for any size, any ceiling and any word; no condition but what the library's own table holds, which the card ties to the program's text.
-/
import Derived.Test.YtkiikblpgppmkaaGreatDoorSpM30
namespace Go.Proofs.YtkiikblpgppmkaaGreatDoor.topSpent
open Go
set_option linter.unusedVariables false
set_option linter.unusedSimpArgs false
theorem wfText : Rows.topSpentRow.wfByText (OpenSpec.ofChange Rows.topSpentSpec) = true := by kernel_rfl
theorem mainIs : Tryz.prog.mainIs = some (Rows.topSpentCard.stood.harness.1, Rows.topSpentCard.stood.harness.2.toList) := by kernel_rfl
theorem looks : false = Tryz.prog.looks [] := by kernel_rfl
theorem goes : false = Rows.topSpentRow.goesBy Tryz.prog := by kernel_rfl
theorem card : Rows.TopSpentCardSaid :=
  Claim7.holds_tied_plain_at .later [] [.data] true Rows.topSpentCard.stood.harness false
    over (fun _ h => by cases h) wfText (fun _ h => by cases h) topSpent_row_tie rfl ⟨rfl, rfl⟩ mainIs rfl
    (fun f fn hf hfn => by
      obtain rfl : f = 6 := Option.some.inj (named.symm.trans hf) |>.symm
      obtain rfl : fn = Tryz.f6 := (Option.some.inj (Tryz.func6.symm.trans hfn)).symm
      exact ⟨looks, fun j t ht => by
        rw [Tryz.params6] at ht
        have hm : t ∈ [3, 2, 111] := by simpa using Array.mem_of_getElem? ht
        have hall : ([3, 2, 111].all fun u => !Tryz.prog.wantsStandIn u) = true := by kernel_rfl
        exact (show Tryz.prog.wantsStandIn t = false by simpa using List.all_eq_true.1 hall t hm)⟩)
    goes
end Go.Proofs.YtkiikblpgppmkaaGreatDoor.topSpent
namespace Go.Proofs.YtkiikblpgppmkaaGreatDoor
/-- The given statement. -/
theorem topSpent_proved : Rows.TopSpentCardSaid := topSpent.card
#print axioms topSpent_proved
end Go.Proofs.YtkiikblpgppmkaaGreatDoor
