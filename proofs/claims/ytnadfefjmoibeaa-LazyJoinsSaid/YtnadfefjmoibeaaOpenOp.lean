/-
  How an op that came in reads: seven numbers, flat.
-/
import Derived.Test.YtnadfefjmoibeaaOpen
import Derived.Test.YtnadfefjmoibeaaLazy
namespace Go.Proofs.Ytnadfefjmoibeaa
open Go Go.RowKit

theorem op_of {H : Type} {enc : TypeId × Value → H} {w : World} {base : Nat} {sp : Nat → Bool} {held : Bool} {row : List Value} (h : Reads enc Try.prog w base sp held 45 row) : ∃ x : OpV, row = x.cells ∧ True := by
  obtain ⟨h1, h2⟩ := reads_struct Try.underlying45 h
  have c : Try.prog.cellsOf 45 = 7 := by kernel_rfl
  have ci : Try.prog.cellsOf 3 = 1 := by kernel_rfl
  have cl : Try.prog.cellsOf 2 = 1 := by kernel_rfl
  have ch : Try.prog.cellsOf 41 = 2 := by kernel_rfl
  have cv : Try.prog.cellsOf 43 = 3 := by kernel_rfl
  rw [c] at h1
  match row, h1 with
  | [k, hi, hg, cc, vk, va, vb], _ =>
    have f0 : Reads enc Try.prog w base sp held 3 [k] := by have f := h2 0 _ rfl; simpa [ci] using f
    have f1 : Reads enc Try.prog w base sp held 41 [hi, hg] := by have f := h2 1 _ rfl; simpa [ch] using f
    have f2 : Reads enc Try.prog w base sp held 3 [cc] := by have f := h2 2 _ rfl; simpa [ci] using f
    have f3 : Reads enc Try.prog w base sp held 43 [vk, va, vb] := by have f := h2 3 _ rfl; simpa [cv] using f
    obtain ⟨_, g1⟩ := reads_struct Try.underlying41 f1
    obtain ⟨_, g3⟩ := reads_struct Try.underlying43 f3
    have a0 : Reads enc Try.prog w base sp held 3 [hi] := by have f := g1 0 _ rfl; simpa [ci] using f
    have a1 : Reads enc Try.prog w base sp held 2 [hg] := by have f := g1 1 _ rfl; simpa [cl] using f
    have b0 : Reads enc Try.prog w base sp held 3 [vk] := by have f := g3 0 _ rfl; simpa [ci] using f
    have b1 : Reads enc Try.prog w base sp held 2 [va] := by have f := g3 1 _ rfl; simpa [cl] using f
    have b2 : Reads enc Try.prog w base sp held 2 [vb] := by have f := g3 2 _ rfl; simpa [cl] using f
    obtain ⟨n0, e0, _⟩ := reads_int Try.underlying3 f0
    obtain ⟨n1, e1, _⟩ := reads_int Try.underlying3 a0
    obtain ⟨n2, e2, _⟩ := reads_int Try.underlying2 a1
    obtain ⟨n3, e3, _⟩ := reads_int Try.underlying3 f2
    obtain ⟨n4, e4, _⟩ := reads_int Try.underlying3 b0
    obtain ⟨n5, e5, _⟩ := reads_int Try.underlying2 b1
    obtain ⟨n6, e6, _⟩ := reads_int Try.underlying2 b2
    simp at e0 e1 e2 e3 e4 e5 e6
    subst e0; subst e1; subst e2; subst e3; subst e4; subst e5; subst e6
    exact ⟨⟨n0, n1, n2, n3, n4, n5, n6⟩, rfl, trivial⟩

/-- An op by value. -/
theorem op_arg {H : Type} {enc : TypeId × Value → H} {w : World} {base : Nat} {sp : Nat → Bool} {held : Bool} {r : Reach} {v : Value} (hv : Value.okWide Try.prog w r base 45 v)
    (h : Reads enc Try.prog w 0 sp held 45 v.cells.toList) : ∃ x : OpV, v = x.val := by
  obtain ⟨cs, rfl⟩ : ∃ cs, v = .agg cs := by
    simp only [Value.okWide, Try.underlying45] at hv
    obtain ⟨cs, h, _⟩ := hv
    exact ⟨cs, h⟩
  obtain ⟨x, hx, _⟩ := op_of h
  refine ⟨x, ?_⟩
  have e : cs = x.cells.toArray := by
    have h2 : (Value.agg cs).cells = cs := rfl
    rw [h2] at hx
    rw [← hx]
  rw [e]
  rfl
end Go.Proofs.Ytnadfefjmoibeaa
