/-
  TopLater answers true for any numbers; no condition but what the library's own table holds, which the card ties to the program's text.
-/
import Derived.Test.YtkiikblpgppmkaaGreatDoorTlM43
import Derived.Test.YtkiikblpgppmkaaGreatDoorTlM44
import Derived.Test.YtkiikblpgppmkaaGreatDoorTlM45
import Derived.Test.YtkiikblpgppmkaaGreatDoorTie
import Derived.Test.YtkiikblpgppmkaaGreatDoorCards
import Derived.ProofKit
import Derived.LaidMore
import Derived.OpenShut
import Derived.Lib.LaidTab
import Derived.SevenTiedAt
namespace Go.Proofs.YtkiikblpgppmkaaGreatDoor.topLater
open Go Go.ChangeShapes Go.WideShapes Go.ChangeAt Go.RowKit
open Go.ChangeMaps (open_string shut_string)
set_option linter.unusedVariables false
set_option linter.unusedSimpArgs false

theorem own : ownKnob Tryz.prog.godebug = none := by kernel_rfl
theorem laidOut : laidOutB Tryz.prog = true := by kernel_rfl
theorem gTab : Tryz.prog.globalNamed "math/bits.deBruijn64tab" = some 0 := by kernel_rfl
theorem tTab : (Tryz.prog.globals[0]?).map (·.type) = some 371 := by kernel_rfl
theorem cE : Tryz.prog.cellsOf 5 = 1 := by kernel_rfl
theorem cT : Tryz.prog.cellsOf 371 = 64 := by kernel_rfl
/-- What the condition gives the walk. -/
theorem tab_of {W : World} (h : laidMetH Tryz.prog Rows.topLaterRow.laid W) : Tab W := by
  rw [MakeChecks.laidMetH_plain _ _ _ (by kernel_rfl)] at h
  have hT : Lib.TabIs Tryz.prog W "math/bits.deBruijn64tab" .u8 (tabL.map fun (n : Nat) => (n : Int)) := Lib.tabIs_of_head gTab tTab Tryz.underlying371 Tryz.underlying5 cE cT h
  have hc : ∀ k, k < 64 → W.cell? ⟨0, k, none⟩ = some (.int .u8 ((tabL.getD k 0 : Nat) : Int)) := fun k hk => by
    rw [hT.cell gTab k (by simpa [tabL] using hk)]
    simp only [List.getD_eq_getElem?_getD, List.getElem?_map]
    cases tabL[k]? <;> rfl
  refine ⟨?_, hc⟩
  have h0 := hc 0 (by decide)
  rcases Nat.eq_zero_or_pos W.heap.size with e | e
  · rw [World.cell?] at h0
    simp [e] at h0
  · exact e
/-- The door's own heap meets the condition. -/
theorem door_met (os : Os) (args : Array Value) : laidMetH Tryz.prog Rows.topLaterRow.laid ((World.doorLaid Tryz.prog 400 os).forCall (fun _ _ => 0) ⟨#[], args, []⟩).memory :=
  laidMetH_of_parts3 (fuel := 8) (laidMet_of_run' 8 (by kernel_rfl) (by kernel_rfl)) (by kernel_rfl) (by kernel_rfl)

set_option maxRecDepth 100000 in
theorem lifted (os : Os) (started : os.Started) (H : Type) (enc : TypeId × Value → H) :
    ReturnsInHanded {} Tryz.checked os 5 .any (fun w args => (Rows.topLaterSpec.pre enc Tryz.prog Tryz.f5 [] false w args ∧ laidMetH Tryz.prog Rows.topLaterRow.laid w) ∧ sizedMet enc Tryz.prog Tryz.f5 (OpenSpec.ofChange Rows.topLaterSpec) false w args) (Rows.topLaterSpec.post enc Tryz.prog Tryz.f5 false true false false) := by
  refine returnsInHanded_of_change_and (C := Tryz.checked) (X := fun w _ => laidMetH Tryz.prog Rows.topLaterRow.laid w) (fun _ _ _ hh h => h.of_heap hh) own started (by kernel_rfl) Tryz.func5
    (ChangeSpec.witness_shaped (enc := enc) (C := Tryz.checked) (os := os) (X := fun w _ => laidMetH Tryz.prog Rows.topLaterRow.laid w) false (World.doorLaid Tryz.prog 400 os) #[.int .i64 0, .slice none 0 0, .slice none 0 0, .slice none 0 0] 8 rfl (World.shaped_of_RefB (by kernel_rfl) (by kernel_rfl)) (by kernel_rfl) (by kernel_rfl) (by kernel_rfl) (door_met os _)) ?_
  intro W base args ds gs before hval0 hW _ _ hL _
  have hval : ∀ (j : Nat) t v, Tryz.f5.params[j]? = some t → args[j]? = some v → Value.okWide Tryz.prog W .any base t v := hval0
  have hW' := hW
  obtain ⟨p, q, hA0, hV, rfl, hfz, hnd⟩ := hW
  have hA : DataW.TrodAll enc Tryz.prog W 0 (fun _ => true) true Tryz.f5.params.toList args.toList ds p := hA0
  rw [Tryz.params5] at hA hval
  obtain ⟨v0, vs0, d0, ds0, p0, q0, hargs, rfl, rfl, h0, r0⟩ := trodAll_cons hA
  obtain ⟨v1, vs1, d1, ds1, p1, q1, rfl, rfl, rfl, h1, r1⟩ := trodAll_cons r0
  obtain ⟨v2, vs2, d2, ds2, p2, q2, rfl, rfl, rfl, h2, r2⟩ := trodAll_cons r1
  obtain ⟨v3, vs3, d3, ds3, p3, q3, rfl, rfl, rfl, h3, r3⟩ := trodAll_cons r2
  obtain ⟨rfl, rfl, rfl⟩ := trodAll_nil r3
  obtain rfl : args = #[v0, v1, v2, v3] := by cases args; simp_all
  obtain ⟨rfl, rfl⟩ := trodVars_none hV
  obtain ⟨a0, rfl, rfl, rfl, w0⟩ := open_int Tryz.underlying3 (hval 0 3 v0 rfl rfl) h0
  have k1 := h1
  have lt1 : ∀ x ∈ p1, x.block < W.heap.size := by obtain ⟨m, hm⟩ := k1; exact DataW.trod_lt m _ _ _ hm
  obtain ⟨sa1, sn1, sc1, rfl⟩ := okWide_slice Tryz.underlying22 (hval 1 22 v1 rfl rfl)
  have R1 : Reads enc Tryz.prog W 0 (fun _ => true) true 22 [.slice sa1 sn1 sc1] := reads_of_trod h1
  have k2 := h2
  have lt2 : ∀ x ∈ p2, x.block < W.heap.size := by obtain ⟨m, hm⟩ := k2; exact DataW.trod_lt m _ _ _ hm
  obtain ⟨sa2, sn2, sc2, rfl⟩ := okWide_slice Tryz.underlying22 (hval 2 22 v2 rfl rfl)
  have R2 : Reads enc Tryz.prog W 0 (fun _ => true) true 22 [.slice sa2 sn2 sc2] := reads_of_trod h2
  have k3 := h3
  have lt3 : ∀ x ∈ p3, x.block < W.heap.size := by obtain ⟨m, hm⟩ := k3; exact DataW.trod_lt m _ _ _ hm
  obtain ⟨sa3, sn3, sc3, rfl⟩ := okWide_slice Tryz.underlying22 (hval 3 22 v3 rfl rfl)
  have R3 : Reads enc Tryz.prog W 0 (fun _ => true) true 22 [.slice sa3 sn3 sc3] := reads_of_trod h3
  have hT := tab_of hL
  clear hA0 hval0
  refine Calls.mono (R := RetTrue W) ?_ fun e W' ⟨he, bel⟩ => ?_
  · obtain ⟨aw1, cw1, lw1, g1, m1, _⟩ := reads_ints Tryz.underlying22 Tryz.underlying3 (by kernel_rfl) R1
    injection g1 with e1 e2 e3
    subst e1; subst e2; subst e3
    obtain ⟨aw2, cw2, lw2, g2, m2, _⟩ := reads_ints Tryz.underlying22 Tryz.underlying3 (by kernel_rfl) R2
    injection g2 with e1 e2 e3
    subst e1; subst e2; subst e3
    obtain ⟨aw3, cw3, lw3, g3, m3, _⟩ := reads_ints Tryz.underlying22 Tryz.underlying3 (by kernel_rfl) R3
    injection g3 with e1 e2 e3
    subst e1; subst e2; subst e3
    exact topLater_walk _ _ lw1 _ lw2 _ lw3 W _ _ _ m1 m2 m3 hT
  subst he
  exact ⟨_, rfl, _, _, _, [], _, [], hW', trodAll_mk1 (shut_bool Tryz.underlying4 _), (trodAll_cons_mk (shut_int Tryz.underlying3 w0) (trodAll_cons_mk (Below.trod laidOut (by kernel_rfl) (of_decide_eq_true (by kernel_rfl)) k1 bel lt1) (trodAll_cons_mk (Below.trod laidOut (by kernel_rfl) (of_decide_eq_true (by kernel_rfl)) k2 bel lt2) (trodAll_cons_mk (Below.trod laidOut (by kernel_rfl) (of_decide_eq_true (by kernel_rfl)) k3 bel lt3) trodAll_mk0)))), rfl, bel.frame _, fun h => by cases h⟩

theorem over : Rows.TopLaterSaid :=
  OpenClaim.holds_of_wide 5 Tryz.f5 rfl rfl rfl rfl rfl rfl rfl ⟨rfl, rfl, rfl, rfl, rfl⟩ rfl rfl rfl rfl rfl named Tryz.func5 closed inst wrap
    (fun os started H enc _ => lifted os started H enc)
end Go.Proofs.YtkiikblpgppmkaaGreatDoor.topLater
