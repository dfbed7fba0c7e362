/-
  How a script of calls that came in reads: five numbers each, flat.
-/
import Derived.Test.YtcmbbkaioopkhaaOpen
import Derived.Test.YtcmbbkaioopkhaaHash1
namespace Go.Proofs.Ytcmbbkaioopkhaa
open Go Go.RowKit
set_option linter.unusedVariables false
set_option linter.unusedSimpArgs false

set_option maxRecDepth 10000 in
theorem hop_of {H : Type} {enc : TypeId × Value → H} {w : World} {base : Nat} {sp : Nat → Bool} {held : Bool} {row : List Value} (h : Reads enc Try.prog w base sp held 69 row) : ∃ x : SlotV, row = x.cells ∧ True := by
  obtain ⟨h1, h2⟩ := reads_struct Try.underlying69 h
  have c : Try.prog.cellsOf 69 = 5 := by kernel_rfl
  have ci : Try.prog.cellsOf 3 = 1 := by kernel_rfl
  have cl : Try.prog.cellsOf 2 = 1 := by kernel_rfl
  have cv : Try.prog.cellsOf 67 = 3 := by kernel_rfl
  rw [c] at h1
  match row, h1 with
  | [k, x, vk, va, vb], _ =>
    have f0 : Reads enc Try.prog w base sp held 3 [k] := by have f := h2 0 _ rfl; simpa [ci] using f
    have f1 : Reads enc Try.prog w base sp held 3 [x] := by have f := h2 1 _ rfl; simpa [ci] using f
    have f2 : Reads enc Try.prog w base sp held 67 [vk, va, vb] := by have f := h2 2 _ rfl; simpa [ci, cv] using f
    obtain ⟨_, g3⟩ := reads_struct Try.underlying67 f2
    have b0 : Reads enc Try.prog w base sp held 3 [vk] := by have f := g3 0 _ rfl; simpa [ci] using f
    have b1 : Reads enc Try.prog w base sp held 2 [va] := by have f := g3 1 _ rfl; simpa [cl] using f
    have b2 : Reads enc Try.prog w base sp held 2 [vb] := by have f := g3 2 _ rfl; simpa [cl] using f
    obtain ⟨n0, e0, _⟩ := reads_int Try.underlying3 f0
    obtain ⟨n1, e1, _⟩ := reads_int Try.underlying3 f1
    obtain ⟨n4, e4, _⟩ := reads_int Try.underlying3 b0
    obtain ⟨n5, e5, _⟩ := reads_int Try.underlying2 b1
    obtain ⟨n6, e6, _⟩ := reads_int Try.underlying2 b2
    simp at e0 e1 e4 e5 e6
    subst e0; subst e1; subst e4; subst e5; subst e6
    exact ⟨⟨n0, n1, n4, n5, n6⟩, rfl, trivial⟩

theorem hops_of {H : Type} {enc : TypeId × Value → H} {w : World} {base : Nat} {sp : Nat → Bool} {held : Bool} {v : Value} (h : Reads enc Try.prog w base sp held 56 [v]) :
    ∃ (a : Option Addr) (c : Nat) (l : List SlotV), v = .slice a l.length c ∧ Rd (fun i => i < w.heap.size) w v l.length (flatSl l) := by
  obtain ⟨a, c, l, h1, h2, _⟩ := reads_slice SlotV.cells 5 (fun _ => True) Try.underlying56 (by kernel_rfl) (fun _ => rfl) (fun row hr => hop_of hr) h
  exact ⟨a, c, l, h1, h2⟩
end Go.Proofs.Ytcmbbkaioopkhaa
