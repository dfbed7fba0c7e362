/-
  How a system, a world's description, a system made of numbers that came in read.
-/
import Derived.Test.YtbigknmeooaidaaOpen
import Derived.Test.YtbigknmeooaidaaChk11
namespace Go.Proofs.Ytbigknmeooaidaa
open Go Go.RowKit
set_option linter.unusedVariables false
set_option linter.unusedSimpArgs false
set_option maxRecDepth 10000
section
variable {H : Type} {enc : TypeId × Value → H} {w : World} {base : Nat} {sp : Nat → Bool} {held : Bool}

theorem cells1 : Try.prog.cellsOf 3 = 1 ∧ Try.prog.cellsOf 2 = 1 ∧ Try.prog.cellsOf 4 = 1 ∧ Try.prog.cellsOf 23 = 1 ∧ Try.prog.cellsOf 53 = 1 ∧ Try.prog.cellsOf 32 = 1 ∧ Try.prog.cellsOf 33 = 1 ∧ Try.prog.cellsOf 54 = 1 :=
  ⟨by kernel_rfl, by kernel_rfl, by kernel_rfl, by kernel_rfl, by kernel_rfl, by kernel_rfl, by kernel_rfl, by kernel_rfl⟩
theorem col_of {row : List Value} (h : Reads enc Try.prog w base sp held 82 row) : ∃ x : ColV, row = x.cells ∧ True := by
  obtain ⟨h1, h2⟩ := reads_struct Try.underlying82 h
  obtain ⟨ci, _⟩ := cells1
  have c : Try.prog.cellsOf 82 = 2 := by kernel_rfl
  rw [c] at h1
  match row, h1 with
  | [k, m], _ =>
    have f0 : Reads enc Try.prog w base sp held 3 [k] := by have f := h2 0 _ rfl; simpa [ci] using f
    have f1 : Reads enc Try.prog w base sp held 3 [m] := by have f := h2 1 _ rfl; simpa [ci] using f
    obtain ⟨n0, e0, _⟩ := reads_int Try.underlying3 f0
    obtain ⟨n1, e1, _⟩ := reads_int Try.underlying3 f1
    simp at e0 e1
    subst e0; subst e1
    exact ⟨⟨n0, n1⟩, rfl, trivial⟩
theorem ins_of {row : List Value} (h : Reads enc Try.prog w base sp held 87 row) : ∃ x : InsV, row = x.cells ∧ True := by
  obtain ⟨h1, h2⟩ := reads_struct Try.underlying87 h
  obtain ⟨ci, cl, _⟩ := cells1
  have c : Try.prog.cellsOf 87 = 4 := by kernel_rfl
  rw [c] at h1
  match row, h1 with
  | [o, r, s, n], _ =>
    have f0 : Reads enc Try.prog w base sp held 3 [o] := by have f := h2 0 _ rfl; simpa [ci] using f
    have f1 : Reads enc Try.prog w base sp held 3 [r] := by have f := h2 1 _ rfl; simpa [ci] using f
    have f2 : Reads enc Try.prog w base sp held 3 [s] := by have f := h2 2 _ rfl; simpa [ci] using f
    have f3 : Reads enc Try.prog w base sp held 2 [n] := by have f := h2 3 _ rfl; simpa [cl] using f
    obtain ⟨n0, e0, _⟩ := reads_int Try.underlying3 f0
    obtain ⟨n1, e1, _⟩ := reads_int Try.underlying3 f1
    obtain ⟨n2, e2, _⟩ := reads_int Try.underlying3 f2
    obtain ⟨n3, e3, _⟩ := reads_int Try.underlying2 f3
    simp at e0 e1 e2 e3
    subst e0; subst e1; subst e2; subst e3
    exact ⟨⟨n0, n1, n2, n3⟩, rfl, trivial⟩
theorem desc_of {row : List Value} (h : Reads enc Try.prog w base sp held 58 row) : ∃ x : DescV, row = x.cells ∧ True := by
  obtain ⟨h1, h2⟩ := reads_struct Try.underlying58 h
  obtain ⟨ci, _⟩ := cells1
  have c : Try.prog.cellsOf 58 = 3 := by kernel_rfl
  rw [c] at h1
  match row, h1 with
  | [o, r, s], _ =>
    have f0 : Reads enc Try.prog w base sp held 3 [o] := by have f := h2 0 _ rfl; simpa [ci] using f
    have f1 : Reads enc Try.prog w base sp held 3 [r] := by have f := h2 1 _ rfl; simpa [ci] using f
    have f2 : Reads enc Try.prog w base sp held 3 [s] := by have f := h2 2 _ rfl; simpa [ci] using f
    obtain ⟨n0, e0, _⟩ := reads_int Try.underlying3 f0
    obtain ⟨n1, e1, _⟩ := reads_int Try.underlying3 f1
    obtain ⟨n2, e2, _⟩ := reads_int Try.underlying3 f2
    simp at e0 e1 e2
    subst e0; subst e1; subst e2
    exact ⟨⟨n0, n1, n2⟩, rfl, trivial⟩
/-- A row of numbers that came in. -/
theorem row_of {v : Value} (h : Reads enc Try.prog w base sp held 23 [v]) : ∃ r : RowV, v = r.v ∧ Rd (fun i => i < w.heap.size) w r.v r.l.length (ints r.l) := by
  obtain ⟨a, c, l, rfl, h2, _⟩ := reads_ints Try.underlying23 Try.underlying3 cells1.1 h
  exact ⟨⟨a, c, l⟩, rfl, h2⟩
def SysRdA (S : Nat → Prop) (w : World) (y : SysF) : Prop := SysRd S w y ∧ Rd S w y.x.af.v y.x.af.l.length (ints y.x.af.l)
theorem sys_of {row : List Value} (h : Reads enc Try.prog w base sp held 35 row) : ∃ y : SysF, row = y.x.cells ∧ SysRdA (fun i => i < w.heap.size) w y := by
  obtain ⟨h1, h2⟩ := reads_struct Try.underlying35 h
  obtain ⟨ci, cl, cb, cr, _, cc, cn, _⟩ := cells1
  have c : Try.prog.cellsOf 35 = 8 := by kernel_rfl
  have cu : Try.prog.cellsOf 31 = 5 := by kernel_rfl
  have c2 : Try.prog.cellsOf 82 = 2 := by kernel_rfl
  have c4 : Try.prog.cellsOf 87 = 4 := by kernel_rfl
  rw [c] at h1
  match row, h1 with
  | [v0, v1, v2, v3, v4, v5, v6, v7], _ =>
    have f0 : Reads enc Try.prog w base sp held 31 [v0, v1, v2, v3, v4] := by have f := h2 0 _ rfl; simpa [cu] using f
    have f5 : Reads enc Try.prog w base sp held 32 [v5] := by have f := h2 1 _ rfl; simpa [cc] using f
    have f6 : Reads enc Try.prog w base sp held 33 [v6] := by have f := h2 2 _ rfl; simpa [cn] using f
    have f7 : Reads enc Try.prog w base sp held 23 [v7] := by have f := h2 3 _ rfl; simpa [cr] using f
    obtain ⟨_, g⟩ := reads_struct Try.underlying31 f0
    have a0 : Reads enc Try.prog w base sp held 23 [v0] := by have f := g 0 _ rfl; simpa [cr] using f
    have a1 : Reads enc Try.prog w base sp held 23 [v1] := by have f := g 1 _ rfl; simpa [cr] using f
    have a2 : Reads enc Try.prog w base sp held 23 [v2] := by have f := g 2 _ rfl; simpa [cr] using f
    have a3 : Reads enc Try.prog w base sp held 23 [v3] := by have f := g 3 _ rfl; simpa [cr] using f
    have a4 : Reads enc Try.prog w base sp held 4 [v4] := by have f := g 4 _ rfl; simpa [cb] using f
    obtain ⟨r0, rfl, g0⟩ := row_of a0
    obtain ⟨r1, rfl, g1⟩ := row_of a1
    obtain ⟨r2, rfl, g2⟩ := row_of a2
    obtain ⟨r3, rfl, g3⟩ := row_of a3
    obtain ⟨r7, rfl, g7⟩ := row_of f7
    obtain ⟨b, hb⟩ := reads_bool Try.underlying4 a4
    simp at hb
    subst hb
    obtain ⟨pa, pc, pll, rfl, hp, _⟩ := reads_slice ColV.cells 2 (fun _ => True) Try.underlying32 c2 (fun _ => rfl) (fun row hr => col_of hr) f5
    obtain ⟨da, dc, cdl, rfl, hd, _⟩ := reads_slice InsV.cells 4 (fun _ => True) Try.underlying33 c4 (fun _ => rfl) (fun row hr => ins_of hr) f6
    exact ⟨⟨⟨r0, r1, r2, r3, b, ⟨pa, pll.length, pc⟩, ⟨da, cdl.length, dc⟩, r7⟩, pll, cdl⟩, rfl, ⟨⟨g0, g1, g2, g3⟩, hp, hd⟩, g7⟩
theorem cfg_of {row : List Value} (h : Reads enc Try.prog w base sp held 56 row) : ∃ cf : CfgV, row = cf.arr.toList ∧ RdDescs (fun i => i < w.heap.size) w (.slice cf.ca cf.dl.length cf.cc) cf.dl := by
  obtain ⟨h1, h2⟩ := reads_struct Try.underlying56 h
  obtain ⟨ci, cl, _, _, cq, _, _, cd⟩ := cells1
  have c : Try.prog.cellsOf 56 = 4 := by kernel_rfl
  have c3 : Try.prog.cellsOf 58 = 3 := by kernel_rfl
  rw [c] at h1
  match row, h1 with
  | [v0, v1, v2, v3], _ =>
    have f0 : Reads enc Try.prog w base sp held 3 [v0] := by have f := h2 0 _ rfl; simpa [ci] using f
    have f1 : Reads enc Try.prog w base sp held 2 [v1] := by have f := h2 1 _ rfl; simpa [cl] using f
    have f2 : Reads enc Try.prog w base sp held 54 [v2] := by have f := h2 2 _ rfl; simpa [cd] using f
    have f3 : Reads enc Try.prog w base sp held 53 [v3] := by have f := h2 3 _ rfl; simpa [cq] using f
    obtain ⟨n0, e0, _⟩ := reads_int Try.underlying3 f0
    obtain ⟨n1, e1, _⟩ := reads_int Try.underlying2 f1
    simp at e0 e1
    subst e0; subst e1
    obtain ⟨a, c', dl, rfl, hd, _⟩ := reads_slice DescV.cells 3 (fun _ => True) Try.underlying54 c3 (fun _ => rfl) (fun row hr => desc_of hr) f2
    obtain ⟨a3, c3', l3, rfl, _, _⟩ := reads_ints Try.underlying53 Try.underlying2 cl f3
    exact ⟨⟨n0, n1, a, c', dl, a3, l3.length, c3'⟩, rfl, hd⟩
theorem agg_of {t : TypeId} {fs : Array Field} {r : Reach} {v : Value} (ht : Try.prog.underlying t = some (.struct fs)) (hv : Value.okWide Try.prog w r base t v) : ∃ cs, v = .agg cs := by
  simp only [Value.okWide, ht] at hv
  obtain ⟨cs, h, _⟩ := hv
  exact ⟨cs, h⟩
/-- A system by value. -/
theorem sys_arg {r : Reach} {v : Value} (hv : Value.okWide Try.prog w r base 35 v) (h : Reads enc Try.prog w 0 sp held 35 v.cells.toList) : ∃ y : SysF, v = y.x.val ∧ SysRdA (fun i => i < w.heap.size) w y := by
  obtain ⟨cs, rfl⟩ := agg_of Try.underlying35 hv
  obtain ⟨y, hy, h2⟩ := sys_of h
  refine ⟨y, ?_, h2⟩
  have e : cs = y.x.cells.toArray := by
    have h2 : (Value.agg cs).cells = cs := rfl
    rw [h2] at hy
    rw [← hy]
  rw [e]
  rfl
theorem cfg_arg {r : Reach} {v : Value} (hv : Value.okWide Try.prog w r base 56 v) (h : Reads enc Try.prog w 0 sp held 56 v.cells.toList) : ∃ cf : CfgV, v = cf.val ∧ RdDescs (fun i => i < w.heap.size) w (.slice cf.ca cf.dl.length cf.cc) cf.dl := by
  obtain ⟨cs, rfl⟩ := agg_of Try.underlying56 hv
  obtain ⟨cf, hy, h2⟩ := cfg_of h
  refine ⟨cf, ?_, h2⟩
  have e : cs = cf.arr := by
    have h2 : (Value.agg cs).cells = cs := rfl
    rw [h2] at hy
    exact Array.toList_inj.1 hy
  rw [e]
  rfl
end
end Go.Proofs.Ytbigknmeooaidaa
