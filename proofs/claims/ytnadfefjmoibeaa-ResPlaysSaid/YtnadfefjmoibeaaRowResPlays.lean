/-
  ResPlays answers true for every list of numbers and every script; no condition.
-/
import Derived.Test.YtnadfefjmoibeaaResPlays
import Derived.Test.YtnadfefjmoibeaaOpen
namespace Go.Proofs.Ytnadfefjmoibeaa.resPlays
open Go Go.ChangeShapes Go.WideShapes Go.ChangeAt Go.RowKit
open Go.ChangeMaps (open_string shut_string)
set_option linter.unusedVariables false

theorem own : ownKnob Try.prog.godebug = none := by kernel_rfl
theorem laidOut : laidOutB Try.prog = true := by kernel_rfl

theorem op13_of {H : Type} {enc : TypeId × Value → H} {w : World} {base : Nat} {sp : Nat → Bool} {held : Bool} {row : List Value} (h : Reads enc Try.prog w base sp held 35 row) : ∃ x : Op13, row = x.cells ∧ True := by
  obtain ⟨h1, h2⟩ := reads_struct Try.underlying35 h
  have c : Try.prog.cellsOf 35 = 3 := by kernel_rfl
  have c3 : Try.prog.cellsOf 3 = 1 := by kernel_rfl
  have c2 : Try.prog.cellsOf 2 = 1 := by kernel_rfl
  rw [c] at h1
  match row, h1 with
  | [a, b, d], _ =>
    have f0 : Reads enc Try.prog w base sp held 3 [a] := by have f := h2 0 _ rfl; simpa [c3] using f
    have f1 : Reads enc Try.prog w base sp held 3 [b] := by have f := h2 1 _ rfl; simpa [c3] using f
    have f2 : Reads enc Try.prog w base sp held 2 [d] := by have f := h2 2 _ rfl; simpa [c2] using f
    obtain ⟨n0, e0, _⟩ := reads_int Try.underlying3 f0
    obtain ⟨n1, e1, _⟩ := reads_int Try.underlying3 f1
    obtain ⟨n2, e2, _⟩ := reads_int Try.underlying2 f2
    simp at e0 e1 e2
    subst e0; subst e1; subst e2
    exact ⟨⟨n0, n1, n2⟩, rfl, trivial⟩

set_option maxRecDepth 100000 in
theorem lifted (os : Os) (started : os.Started) (H : Type) (enc : TypeId × Value → H) :
    ReturnsInHanded {} Try.checked os 5 .any (Rows.resPlaysSpec.pre6 enc Try.prog Try.f5 Rows.resPlaysRow.domain false) (Rows.resPlaysSpec.post enc Try.prog Try.f5 false true false false) := by
  refine returnsInHanded_of_change (C := Try.checked) own started (by kernel_rfl) Try.func5
    (ChangeSpec.witness6 (enc := enc) (C := Try.checked) false ⟨#[], #[.slice none 0 0, .slice none 0 0], []⟩ 8 (by kernel_rfl) (by kernel_rfl) (by kernel_rfl) (by kernel_rfl)) ?_
  intro W base args ds gs before hval0 hW hcnd _
  have hval : ∀ (j : Nat) t v, Try.f5.params[j]? = some t → args[j]? = some v → Value.okWide Try.prog W .any base t v := hval0
  have hW' := hW
  obtain ⟨p, q, hA0, hV, rfl, hfz, hnd⟩ := hW
  have hA : DataW.TrodAll enc Try.prog W 0 (fun _ => true) true Try.f5.params.toList args.toList ds p := hA0
  rw [Try.params5] at hA hval
  obtain ⟨v0, vs0, d0, ds0, p0, q0, hargs, rfl, rfl, h0, r0⟩ := trodAll_cons hA
  obtain ⟨v1, vs1, d1, ds1, p1, q1, rfl, rfl, rfl, h1, r1⟩ := trodAll_cons r0
  obtain ⟨rfl, rfl, rfl⟩ := trodAll_nil r1
  obtain rfl : args = #[v0, v1] := by cases args; simp_all
  obtain ⟨rfl, rfl⟩ := trodVars_none hV
  have k0 := h0
  have lt0 : ∀ x ∈ p0, x.block < W.heap.size := by obtain ⟨m, hm⟩ := k0; exact DataW.trod_lt m _ _ _ hm
  obtain ⟨sa0, sn0, sc0, rfl⟩ := okWide_slice Try.underlying22 (hval 0 22 v0 rfl rfl)
  have R0 : Reads enc Try.prog W 0 (fun _ => true) true 22 [.slice sa0 sn0 sc0] := reads_of_trod h0
  have k1 := h1
  have lt1 : ∀ x ∈ p1, x.block < W.heap.size := by obtain ⟨m, hm⟩ := k1; exact DataW.trod_lt m _ _ _ hm
  obtain ⟨sa1, sn1, sc1, rfl⟩ := okWide_slice Try.underlying33 (hval 1 33 v1 rfl rfl)
  have R1 : Reads enc Try.prog W 0 (fun _ => true) true 33 [.slice sa1 sn1 sc1] := reads_of_trod h1
  clear hA0 hval0
  refine Calls.mono (R := RetTrue W) ?_ fun e W' ⟨he, bel⟩ => ?_
  · obtain ⟨a, c, l, h1, h2, _⟩ := reads_ints Try.underlying22 Try.underlying2 (by kernel_rfl) R0
    injection h1 with e1 e2 e3
    subst e1; subst e2; subst e3
    obtain ⟨ao, co, ops, g1, g2, _⟩ := reads_slice (α := Op13) Op13.cells 3 (fun _ => True) Try.underlying33 (by kernel_rfl) (fun _ => rfl) (fun row hr => op13_of hr) R1
    injection g1 with e1 e2 e3
    subst e1; subst e2; subst e3
    exact resPlays_walk _ _ l ops W _ _ h2 (fun i h => h) g2 (fun i h => h)
  subst he
  exact ⟨_, rfl, _, _, _, [], _, [], hW', trodAll_mk1 (shut_bool Try.underlying4 _), (trodAll_cons_mk (Below.trod laidOut (by kernel_rfl) (of_decide_eq_true (by kernel_rfl)) k0 bel lt0) (trodAll_cons_mk (Below.trod laidOut (by kernel_rfl) (of_decide_eq_true (by kernel_rfl)) k1 bel lt1) trodAll_mk0)), rfl, bel.frame _, fun h => by cases h⟩

theorem over : Rows.resPlaysRow.holds Try.pinned (OpenSpec.ofChange Rows.resPlaysSpec) :=
  OpenClaim.holds_of_wide 5 Try.f5 rfl rfl rfl rfl rfl rfl rfl ⟨rfl, rfl, rfl, rfl, rfl⟩ rfl rfl rfl rfl rfl (by kernel_rfl) Try.func5 (by kernel_rfl)
    (of_decide_eq_true (by kernel_rfl)) (by unfold Func.isWrapper; first | (rw [if_pos (by decide +kernel)]; kernel_rfl) | (rw [if_neg (by decide +kernel)]; exact ⟨rfl, rfl⟩))
    (fun os started H enc _ => lifted os started H enc)
end Go.Proofs.Ytnadfefjmoibeaa.resPlays
namespace Go.Proofs.Ytnadfefjmoibeaa
/-- The given statement. -/
theorem resPlays_proved : Rows.ResPlaysSaid := resPlays.over
end Go.Proofs.Ytnadfefjmoibeaa
