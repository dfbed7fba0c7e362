/-
  A system's numbers as an argument, with the bound that the reach gives to a slice inside a struct.
-/
import Derived.Test.YtbigknmeooaidaaOpenSys
import Derived.Test.YtbigknmeooaidaaMk5
import Derived.SizedLaws
namespace Go.Proofs.Ytbigknmeooaidaa
open Go Go.RowKit
set_option linter.unusedVariables false
set_option linter.unusedSimpArgs false

def SysN.rowO (x : SysN) : Array Value := #[.slice x.pa x.plan.length x.pc, .slice x.ca x.code.length x.cc, .slice x.fa x.after.length x.fc, .int .i64 x.use] ++ x.raw.x.cells.toArray

/-- A slice in a field of a struct takes no more than its data weighs. -/
theorem weigh_field {H : Type} {enc : TypeId × Value → H} {P : Program} {w : World} {base : Nat} {sp : Nat → Bool} {held : Bool} {t : TypeId} {fs : Array Field} {cs : List Value} {d : DataW H} {ps : List MemPlace} {fuel L : Nat}
    (ht : P.underlying t = some (.struct fs)) (h : DataW.trod enc P w base sp held fuel t cs = some (d, ps)) (hw : ∀ n ∈ d.weights P t, n ≤ L) (i : Nat) (f : Field) (hf : fs[i]? = some f) {e : TypeId} (he : P.underlying f.type = some (.slice e))
    {a : Option Addr} {n c : Nat} (hv : (cs.drop f.offset).take (P.cellsOf f.type) = [.slice a n c]) : n * P.bytesOf e ≤ L := by
  obtain ⟨xs, m, _, hx, _, hl, h3⟩ := DataW.trod_struct ht h
  have h4 := h3 i f hf
  have hi : i < xs.length := by rw [hl]; exact (Array.getElem?_eq_some_iff.1 hf).1
  rw [List.getElem?_eq_getElem hi, hv] at h4
  have hd : d = .agg (xs.map (·.1)) := congrArg Prod.fst hx
  rcases DataW.trod_slice he h4 with ⟨h5, _⟩ | ⟨a', len, cap, elems, rest, m', _, h5, h6, _, _, _, h7, _⟩
  · simp only [List.cons.injEq, Value.slice.injEq, and_true] at h5
    obtain ⟨_, rfl, _⟩ := h5
    simp
  · simp only [List.cons.injEq, Value.slice.injEq, and_true] at h5
    obtain ⟨_, rfl, _⟩ := h5
    have h8 : ((elems.map (·.1)).length + (rest.map (·.1)).length) * P.bytesOf e ∈ DataW.weights P f.type xs[i].1 := by rw [h6]; simp [DataW.weights, he]
    have h9 := DataW.weights_mem_each (P := P) (ts := fs.toList.map (·.type)) (ds := xs.map (·.1)) (j := i) (t := f.type) (d := xs[i].1) (by simp [hf]) (by simp [hi]) _ h8
    have h10 := hw _ (by rw [hd]; simp only [DataW.weights, ht]; exact h9)
    refine Nat.le_trans (Nat.mul_le_mul_right _ ?_) h10
    simp only [List.length_map]
    omega

section
variable {H : Type} {enc : TypeId × Value → H} {w : World} {base : Nat} {sp : Nat → Bool} {held : Bool}
set_option maxRecDepth 20000 in
theorem sysN_of {row : List Value} (h : Reads enc Try.prog w base sp held 52 row) : ∃ x : SysN, row = x.rowO.toList ∧ SysNRd (fun i => i < w.heap.size) w x := by
  obtain ⟨h1, h2⟩ := reads_struct Try.underlying52 h
  obtain ⟨ci, _, _, cr, _⟩ := cells1
  have c : Try.prog.cellsOf 52 = 12 := by kernel_rfl
  have cy : Try.prog.cellsOf 35 = 8 := by kernel_rfl
  rw [c] at h1
  match row, h1 with
  | [v0, v1, v2, v3, v4, v5, v6, v7, v8, v9, v10, v11], _ =>
    have f0 : Reads enc Try.prog w base sp held 23 [v0] := by have f := h2 0 _ rfl; simpa [cr] using f
    have f1 : Reads enc Try.prog w base sp held 23 [v1] := by have f := h2 1 _ rfl; simpa [cr] using f
    have f2 : Reads enc Try.prog w base sp held 23 [v2] := by have f := h2 2 _ rfl; simpa [cr] using f
    have f3 : Reads enc Try.prog w base sp held 3 [v3] := by have f := h2 3 _ rfl; simpa [ci] using f
    have f4 : Reads enc Try.prog w base sp held 35 [v4, v5, v6, v7, v8, v9, v10, v11] := by have f := h2 4 _ rfl; simpa [cy] using f
    obtain ⟨r0, rfl, g0⟩ := row_of f0
    obtain ⟨r1, rfl, g1⟩ := row_of f1
    obtain ⟨r2, rfl, g2⟩ := row_of f2
    obtain ⟨n3, e3, _⟩ := reads_int Try.underlying3 f3
    simp at e3
    subst e3
    obtain ⟨y, hy, g4⟩ := sys_of f4
    rw [show ([r0.v, r1.v, r2.v, .int .i64 n3, v4, v5, v6, v7, v8, v9, v10, v11] : List Value) = [r0.v, r1.v, r2.v, .int .i64 n3] ++ [v4, v5, v6, v7, v8, v9, v10, v11] from rfl, hy]
    exact ⟨⟨r0.a, r0.c, r0.l, r1.a, r1.c, r1.l, r2.a, r2.c, r2.l, n3, y⟩, by simp [SysN.rowO, RowV.v], ⟨g0, g1, g2, g4⟩⟩
set_option maxRecDepth 20000 in
/-- A system's numbers by value. -/
theorem sysN_arg {r : Reach} {v : Value} {d : DataW H} {ps : List MemPlace} (hv : Value.okWide Try.prog w r base 52 v) (h : DataW.Trod enc Try.prog w 0 sp held 52 v d ps)
    (hw : ∀ n ∈ d.weights Try.prog 52, n ≤ reachBytes) : ∃ x : SysN, v = x.val ∧ SysNRd (fun i => i < w.heap.size) w x ∧ x.after.length * 8 ≤ 140737488355328 := by
  obtain ⟨cs, rfl⟩ := agg_of Try.underlying52 hv
  obtain ⟨x, hx, h2⟩ := sysN_of (reads_of_trod h)
  obtain ⟨fuel, h3⟩ := h
  have e : cs = x.rowO := by
    have h4 : (Value.agg cs).cells = cs := rfl
    rw [h4] at hx
    exact Array.toList_inj.1 hx
  subst e
  have cr : Try.prog.cellsOf 23 = 1 := by kernel_rfl
  have cb : Try.prog.bytesOf 3 = 8 := by kernel_rfl
  have h5 := weigh_field Try.underlying52 h3 hw 2 _ rfl Try.underlying23 (a := x.fa) (n := x.after.length) (c := x.fc) (by show (x.rowO.toList.drop 2).take (Try.prog.cellsOf 23) = _; rw [cr]; rfl)
  rw [cb] at h5
  refine ⟨x, rfl, h2, Nat.le_trans h5 ?_⟩
  have := reachBytes_lt
  omega
end
end Go.Proofs.Ytbigknmeooaidaa
