/-
  How events that came in read: two numbers each, flat.
-/
import Derived.Test.YtcmbbkaioopkhaaOpen
import Derived.Test.YtcmbbkaioopkhaaFlag
namespace Go.Proofs.Ytcmbbkaioopkhaa
open Go Go.RowKit
set_option linter.unusedVariables false
set_option linter.unusedSimpArgs false

theorem len_two {α : Type} {l : List α} (h : l.length = 2) : ∃ a b, l = [a, b] := by
  cases l with
  | nil => cases h
  | cons a t =>
    cases t with
    | nil => cases h
    | cons b t =>
      cases t with
      | nil => exact ⟨a, b, rfl⟩
      | cons c t => simp at h

theorem ev_of {H : Type} {enc : TypeId × Value → H} {w : World} {base : Nat} {sp : Nat → Bool} {held : Bool} {row : List Value} (h : Reads enc Try.prog w base sp held 34 row) : ∃ x : EvV, row = x.cells ∧ True := by
  obtain ⟨h1, h2⟩ := reads_struct Try.underlying34 h
  have c : Try.prog.cellsOf 34 = 2 := by kernel_rfl
  have ci : Try.prog.cellsOf 3 = 1 := by kernel_rfl
  rw [c] at h1
  obtain ⟨k, i, rfl⟩ := len_two h1
  · have f0 : Reads enc Try.prog w base sp held 3 [k] := by have f := h2 0 _ rfl; simpa [ci] using f
    have f1 : Reads enc Try.prog w base sp held 3 [i] := by have f := h2 1 _ rfl; simpa [ci] using f
    obtain ⟨n0, e0, _⟩ := reads_int Try.underlying3 f0
    obtain ⟨n1, e1, _⟩ := reads_int Try.underlying3 f1
    simp at e0 e1
    subst e0; subst e1
    exact ⟨⟨n0, n1⟩, rfl, trivial⟩

/-- An event by value. -/
theorem ev_arg {H : Type} {enc : TypeId × Value → H} {w : World} {base : Nat} {sp : Nat → Bool} {held : Bool} {r : Reach} {v : Value} (hv : Value.okWide Try.prog w r base 34 v)
    (h : Reads enc Try.prog w 0 sp held 34 v.cells.toList) : ∃ x : EvV, v = x.val := by
  obtain ⟨cs, rfl⟩ : ∃ cs, v = .agg cs := by
    simp only [Value.okWide, Try.underlying34] at hv
    obtain ⟨cs, h, _⟩ := hv
    exact ⟨cs, h⟩
  obtain ⟨x, hx, _⟩ := ev_of h
  refine ⟨x, ?_⟩
  have e : cs = x.cells.toArray := by
    have h2 : (Value.agg cs).cells = cs := rfl
    rw [h2] at hx
    rw [← hx]
  rw [e]
  rfl
theorem evs_of {H : Type} {enc : TypeId × Value → H} {w : World} {base : Nat} {sp : Nat → Bool} {held : Bool} {v : Value} (h : Reads enc Try.prog w base sp held 35 [v]) :
    ∃ (a : Option Addr) (c : Nat) (l : List EvV), v = .slice a l.length c ∧ Rd (fun i => i < w.heap.size) w v l.length (flatEv l) := by
  obtain ⟨a, c, l, h1, h2, _⟩ := reads_slice EvV.cells 2 (fun _ => True) Try.underlying35 (by kernel_rfl) (fun _ => rfl) (fun row hr => ev_of hr) h
  exact ⟨a, c, l, h1, h2⟩
end Go.Proofs.Ytcmbbkaioopkhaa
