/-
  How rows of numbers that came in read.
-/
import Derived.Test.YtbigknmeooaidaaOpen
import Derived.Test.YtbigknmeooaidaaRowE
namespace Go.Proofs.Ytbigknmeooaidaa
open Go Go.RowKit
set_option linter.unusedVariables false
set_option linter.unusedSimpArgs false

theorem rows_of {H : Type} {enc : TypeId × Value → H} {w : World} {base : Nat} {sp : Nat → Bool} {held : Bool} {v : Value} (h : Reads enc Try.prog w base sp held 22 [v]) :
    ∃ (a : Option Addr) (c : Nat) (rs : List RowV), v = .slice a rs.length c ∧ RdRows (fun i => i < w.heap.size) w v rs := by
  obtain ⟨a, c, rs, h1, h2, h3⟩ := reads_slice (fun r : RowV => [r.v]) 1 (fun r => Rd (fun i => i < w.heap.size) w r.v r.l.length (ints r.l)) Try.underlying22 (by kernel_rfl) (fun _ => rfl) (fun row hr => by
    have hl : row.length = 1 := by
      obtain ⟨fuel, x, hf⟩ := hr
      rcases fuel with _ | fuel
      · simp [DataW.trod] at hf
      · simp only [DataW.trod, Try.underlying23] at hf
        match row, hf with
        | [_], _ => rfl
        | [], hf => simp at hf
        | _ :: _ :: _, hf => simp at hf
    match row, hl, hr with
    | [u], _, hr =>
      obtain ⟨sa, sc, l, e1, hR, _⟩ := reads_ints Try.underlying23 Try.underlying3 (by kernel_rfl) hr
      subst e1
      exact ⟨⟨sa, sc, l⟩, rfl, hR⟩) h
  refine ⟨a, c, rs, h1, ⟨?_, h3⟩⟩
  have e : rs.map RowV.v = rs.flatMap (fun r => [r.v]) := List.map_eq_flatMap
  rw [e]
  exact h2
end Go.Proofs.Ytbigknmeooaidaa
