/-
  DERIVED. GIVEN WITH THE SEED: THE CARDS: each row of YtkiikblpgppmkaaGreatDoorRows.lean that lists a variable, with what it lists TIED to the program's text (the seventh form; the later family's looks); each row that meets fmt, with fmt's text TOLD by the authors' own Lean function (tested against real Go, not proved from fmt's source: count such statements apart). THE CARD IS WHAT COUNTS. Prove the row's statement (the work); the ties are given (YtkiikblpgppmkaaGreatDoorTie.lean); close each card by the builder's one call (the guide's Derived/Test/ToyasCard.lean, 'card_holds'). Laid BY PROGRAM, IN A SANDBOX (cutbox-door.mjs). By AI agents, Wed Nov 11 2026. No macro, syntax, notation, axiom, sorry.
-/
import Derived.Test.YtkiikblpgppmkaaGreatDoorRows
import GoSem.ClaimSeven
namespace Go.Proofs.YtkiikblpgppmkaaGreatDoor
namespace Rows

/-- THE TIED CARD OF 'vivariumtop.TopStages'. -/
def topStagesCard : Claim7 := { stood := { row := topStagesRow, standIns := [], harness := (true, "987e984c43a705a45b4cb220d3135d2f07d62bb042b09165b172d79ca5d0704e"), looks := false }, kinds := [], alts := [], laidByText := true, laidKinds := [.data], laidTests := true, laidLooks := .later }
def TopStagesCardSaid : Prop := Claim7.holds Tryz.pinned (.plain (OpenSpec.ofChange topStagesSpec)) topStagesCard

/-- THE TIED CARD OF 'vivariumtop.TopReaders'. -/
def topReadersCard : Claim7 := { stood := { row := topReadersRow, standIns := [], harness := (true, "987e984c43a705a45b4cb220d3135d2f07d62bb042b09165b172d79ca5d0704e"), looks := false }, kinds := [], alts := [], laidByText := true, laidKinds := [.data], laidTests := true, laidLooks := .later }
def TopReadersCardSaid : Prop := Claim7.holds Tryz.pinned (.plain (OpenSpec.ofChange topReadersSpec)) topReadersCard

/-- THE TIED CARD OF 'vivariumtop.TopLater'. -/
def topLaterCard : Claim7 := { stood := { row := topLaterRow, standIns := [], harness := (true, "987e984c43a705a45b4cb220d3135d2f07d62bb042b09165b172d79ca5d0704e"), looks := false }, kinds := [], alts := [], laidByText := true, laidKinds := [.data], laidTests := true, laidLooks := .later }
def TopLaterCardSaid : Prop := Claim7.holds Tryz.pinned (.plain (OpenSpec.ofChange topLaterSpec)) topLaterCard

/-- THE TIED CARD OF 'vivariumtop.TopSpent'. -/
def topSpentCard : Claim7 := { stood := { row := topSpentRow, standIns := [], harness := (true, "987e984c43a705a45b4cb220d3135d2f07d62bb042b09165b172d79ca5d0704e"), looks := false }, kinds := [], alts := [], laidByText := true, laidKinds := [.data], laidTests := true, laidLooks := .later }
def TopSpentCardSaid : Prop := Claim7.holds Tryz.pinned (.plain (OpenSpec.ofChange topSpentSpec)) topSpentCard

/-- THE SECOND FORM's CARD OF 'vivariumtop.TopStages'. -/
def topStagesUptoCard : Claim7 := { stood := { row := topStagesUptoRow, standIns := [], harness := (true, "987e984c43a705a45b4cb220d3135d2f07d62bb042b09165b172d79ca5d0704e"), looks := false }, kinds := [], alts := [], laidByText := true, laidKinds := [.data], laidTests := true, laidLooks := .later }
def TopStagesUptoCardSaid : Prop := Claim7.holds Tryz.pinned (.plain (OpenSpec.upto topStagesSpec)) topStagesUptoCard

/-- THE SECOND FORM's CARD OF 'vivariumtop.TopReaders'. -/
def topReadersUptoCard : Claim7 := { stood := { row := topReadersUptoRow, standIns := [], harness := (true, "987e984c43a705a45b4cb220d3135d2f07d62bb042b09165b172d79ca5d0704e"), looks := false }, kinds := [], alts := [], laidByText := true, laidKinds := [.data], laidTests := true, laidLooks := .later }
def TopReadersUptoCardSaid : Prop := Claim7.holds Tryz.pinned (.plain (OpenSpec.upto topReadersSpec)) topReadersUptoCard

/-- THE SECOND FORM's CARD OF 'vivariumtop.TopLater'. -/
def topLaterUptoCard : Claim7 := { stood := { row := topLaterUptoRow, standIns := [], harness := (true, "987e984c43a705a45b4cb220d3135d2f07d62bb042b09165b172d79ca5d0704e"), looks := false }, kinds := [], alts := [], laidByText := true, laidKinds := [.data], laidTests := true, laidLooks := .later }
def TopLaterUptoCardSaid : Prop := Claim7.holds Tryz.pinned (.plain (OpenSpec.upto topLaterSpec)) topLaterUptoCard

/-- THE SECOND FORM's CARD OF 'vivariumtop.TopSpent'. -/
def topSpentUptoCard : Claim7 := { stood := { row := topSpentUptoRow, standIns := [], harness := (true, "987e984c43a705a45b4cb220d3135d2f07d62bb042b09165b172d79ca5d0704e"), looks := false }, kinds := [], alts := [], laidByText := true, laidKinds := [.data], laidTests := true, laidLooks := .later }
def TopSpentUptoCardSaid : Prop := Claim7.holds Tryz.pinned (.plain (OpenSpec.upto topSpentSpec)) topSpentUptoCard
end Rows
end Go.Proofs.YtkiikblpgppmkaaGreatDoor
