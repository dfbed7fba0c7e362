/-
  LazyPlays answers true for every script; no condition.
-/
import Derived.Test.YtnadfefjmoibeaaLazyPlays
import Derived.Test.YtnadfefjmoibeaaOpenOp
import Derived.Test.YtnadfefjmoibeaaOpen
namespace Go.Proofs.Ytnadfefjmoibeaa.lazyPlays
open Go Go.ChangeShapes Go.WideShapes Go.ChangeAt Go.RowKit
open Go.ChangeMaps (open_string shut_string)
set_option linter.unusedVariables false

theorem own : ownKnob Try.prog.godebug = none := by kernel_rfl
theorem laidOut : laidOutB Try.prog = true := by kernel_rfl

theorem act_of {H : Type} {enc : TypeId × Value → H} {w : World} {base : Nat} {sp : Nat → Bool} {held : Bool} {row : List Value} (h : Reads enc Try.prog w base sp held 61 row) :
    ∃ x : ActV, row = x.cells ∧ ((∃ a n c, x.v = .slice a n c) ∧ Rd (fun i => i < w.heap.size) w x.v x.ops.length (flatOp x.ops)) := by
  obtain ⟨h1, h2⟩ := reads_struct Try.underlying61 h
  have c : Try.prog.cellsOf 61 = 2 := by kernel_rfl
  have c1 : Try.prog.cellsOf 3 = 1 := by kernel_rfl
  have c2 : Try.prog.cellsOf 50 = 1 := by kernel_rfl
  rw [c] at h1
  match row, h1 with
  | [a, b], _ =>
    have f0 : Reads enc Try.prog w base sp held 3 [a] := by have f := h2 0 _ rfl; simpa [c1] using f
    have f1 : Reads enc Try.prog w base sp held 50 [b] := by have f := h2 1 _ rfl; simpa [c2] using f
    obtain ⟨n0, e0, _⟩ := reads_int Try.underlying3 f0
    obtain ⟨sa, sc, l, e1, hR, _⟩ := reads_slice OpV.cells 7 (fun _ => True) Try.underlying50 (by kernel_rfl) (fun _ => rfl) (fun row hr => op_of hr) f1
    simp at e0
    subst e0
    exact ⟨⟨n0, b, l⟩, rfl, ⟨_, _, _, e1⟩, hR⟩

theorem acts_of {H : Type} {enc : TypeId × Value → H} {w : World} {base : Nat} {sp : Nat → Bool} {held : Bool} {v : Value} (h : Reads enc Try.prog w base sp held 59 [v]) :
    ∃ (a : Option Addr) (c : Nat) (l : List ActV), v = .slice a l.length c ∧ Rd (fun i => i < w.heap.size) w v l.length (l.flatMap ActV.cells) ∧
      ∀ x ∈ l, (∃ a n c, x.v = .slice a n c) ∧ Rd (fun i => i < w.heap.size) w x.v x.ops.length (flatOp x.ops) :=
  reads_slice ActV.cells 2 (fun x => (∃ a n c, x.v = .slice a n c) ∧ Rd (fun i => i < w.heap.size) w x.v x.ops.length (flatOp x.ops)) Try.underlying59 (by kernel_rfl) (fun _ => rfl) (fun row hr => act_of hr) h

set_option maxRecDepth 100000 in
theorem lifted (os : Os) (started : os.Started) (H : Type) (enc : TypeId × Value → H) :
    ReturnsInHanded {} Try.checked os 9 .any (Rows.lazyPlaysSpec.pre6 enc Try.prog Try.f9 Rows.lazyPlaysRow.domain false) (Rows.lazyPlaysSpec.post enc Try.prog Try.f9 false true false false) := by
  refine returnsInHanded_of_change (C := Try.checked) own started (by kernel_rfl) Try.func9
    (ChangeSpec.witness6 (enc := enc) (C := Try.checked) false ⟨#[], #[.slice none 0 0], []⟩ 8 (by kernel_rfl) (by kernel_rfl) (by kernel_rfl) (by kernel_rfl)) ?_
  intro W base args ds gs before hval0 hW hcnd _
  have hval : ∀ (j : Nat) t v, Try.f9.params[j]? = some t → args[j]? = some v → Value.okWide Try.prog W .any base t v := hval0
  have hW' := hW
  obtain ⟨p, q, hA0, hV, rfl, hfz, hnd⟩ := hW
  have hA : DataW.TrodAll enc Try.prog W 0 (fun _ => true) true Try.f9.params.toList args.toList ds p := hA0
  rw [Try.params9] at hA hval
  obtain ⟨v0, vs0, d0, ds0, p0, q0, hargs, rfl, rfl, h0, r0⟩ := trodAll_cons hA
  obtain ⟨rfl, rfl, rfl⟩ := trodAll_nil r0
  obtain rfl : args = #[v0] := by cases args; simp_all
  obtain ⟨rfl, rfl⟩ := trodVars_none hV
  have k0 := h0
  have lt0 : ∀ x ∈ p0, x.block < W.heap.size := by obtain ⟨m, hm⟩ := k0; exact DataW.trod_lt m _ _ _ hm
  obtain ⟨sa0, sn0, sc0, rfl⟩ := okWide_slice Try.underlying59 (hval 0 59 v0 rfl rfl)
  have R0 : Reads enc Try.prog W 0 (fun _ => true) true 59 [.slice sa0 sn0 sc0] := reads_of_trod h0
  clear hA0 hval0
  refine Calls.mono (R := RetTrue W) ?_ fun e W' ⟨he, bel⟩ => ?_
  · obtain ⟨a, c, l, h1, h2, h3⟩ := acts_of R0
    injection h1 with e1 e2 e3
    subst e1; subst e2; subst e3
    exact lazyPlays_walk _ l W _ h2 (fun i hi => hi) h3
  subst he
  exact ⟨_, rfl, _, _, _, [], _, [], hW', trodAll_mk1 (shut_bool Try.underlying4 _), (trodAll_cons_mk (Below.trod laidOut (by kernel_rfl) (of_decide_eq_true (by kernel_rfl)) k0 bel lt0) trodAll_mk0), rfl, bel.frame _, fun h => by cases h⟩

theorem over : Rows.lazyPlaysRow.holds Try.pinned (OpenSpec.ofChange Rows.lazyPlaysSpec) :=
  OpenClaim.holds_of_wide 9 Try.f9 rfl rfl rfl rfl rfl rfl rfl ⟨rfl, rfl, rfl, rfl, rfl⟩ rfl rfl rfl rfl rfl (by kernel_rfl) Try.func9 (by kernel_rfl)
    (of_decide_eq_true (by kernel_rfl)) (by unfold Func.isWrapper; first | (rw [if_pos (by decide +kernel)]; kernel_rfl) | (rw [if_neg (by decide +kernel)]; exact ⟨rfl, rfl⟩))
    (fun os started H enc _ => lifted os started H enc)
end Go.Proofs.Ytnadfefjmoibeaa.lazyPlays
namespace Go.Proofs.Ytnadfefjmoibeaa
/-- The given statement. -/
theorem lazyPlays_proved : Rows.LazyPlaysSaid := lazyPlays.over
end Go.Proofs.Ytnadfefjmoibeaa
