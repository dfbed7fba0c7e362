/-
  TopReaders answers true for any numbers; no condition but what the library's own table holds, which the card ties to the program's text.
-/
import Derived.Test.YtkiikblpgppmkaaGreatDoorTrM36
namespace Go.Proofs.YtkiikblpgppmkaaGreatDoor.topReaders
open Go
set_option linter.unusedVariables false
set_option linter.unusedSimpArgs false
theorem wfText : Rows.topReadersRow.wfByText (OpenSpec.ofChange Rows.topReadersSpec) = true := by kernel_rfl
theorem mainIs : Tryz.prog.mainIs = some (Rows.topReadersCard.stood.harness.1, Rows.topReadersCard.stood.harness.2.toList) := by kernel_rfl
theorem looks : false = Tryz.prog.looks [] := by kernel_rfl
theorem goes : false = Rows.topReadersRow.goesBy Tryz.prog := by kernel_rfl
theorem card : Rows.TopReadersCardSaid :=
  Claim7.holds_tied_plain_at .later [] [.data] true Rows.topReadersCard.stood.harness false
    over (fun _ h => by cases h) wfText (fun _ h => by cases h) topReaders_row_tie rfl ⟨rfl, rfl⟩ mainIs rfl
    (fun f fn hf hfn => by
      obtain rfl : f = 4 := Option.some.inj (named.symm.trans hf) |>.symm
      obtain rfl : fn = Tryz.f4 := (Option.some.inj (Tryz.func4.symm.trans hfn)).symm
      exact ⟨looks, fun j t ht => by
        rw [Tryz.params4] at ht
        have hm : t ∈ [22] := by simpa using Array.mem_of_getElem? ht
        have hall : ([22].all fun u => !Tryz.prog.wantsStandIn u) = true := by kernel_rfl
        exact (show Tryz.prog.wantsStandIn t = false by simpa using List.all_eq_true.1 hall t hm)⟩)
    goes
end Go.Proofs.YtkiikblpgppmkaaGreatDoor.topReaders
namespace Go.Proofs.YtkiikblpgppmkaaGreatDoor
/-- The given statement. -/
theorem topReaders_proved : Rows.TopReadersCardSaid := topReaders.card
#print axioms topReaders_proved
end Go.Proofs.YtkiikblpgppmkaaGreatDoor
