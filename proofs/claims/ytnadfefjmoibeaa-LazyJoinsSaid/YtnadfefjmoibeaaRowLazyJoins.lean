/-
  LazyJoins answers true for any three slices of ops; no condition.
-/
import Derived.Test.YtnadfefjmoibeaaLazyJoins
import Derived.Test.YtnadfefjmoibeaaOpenOp
import Derived.Test.YtnadfefjmoibeaaOpen
namespace Go.Proofs.Ytnadfefjmoibeaa.lazyJoins
open Go Go.ChangeShapes Go.WideShapes Go.ChangeAt Go.RowKit
open Go.ChangeMaps (open_string shut_string)
set_option linter.unusedVariables false

theorem own : ownKnob Try.prog.godebug = none := by kernel_rfl
theorem laidOut : laidOutB Try.prog = true := by kernel_rfl

set_option maxRecDepth 100000 in
theorem lifted (os : Os) (started : os.Started) (H : Type) (enc : TypeId × Value → H) :
    ReturnsInHanded {} Try.checked os 8 .any (Rows.lazyJoinsSpec.pre6 enc Try.prog Try.f8 Rows.lazyJoinsRow.domain false) (Rows.lazyJoinsSpec.post enc Try.prog Try.f8 false true false false) := by
  refine returnsInHanded_of_change (C := Try.checked) own started (by kernel_rfl) Try.func8
    (ChangeSpec.witness6 (enc := enc) (C := Try.checked) false ⟨#[], #[.slice none 0 0, .slice none 0 0, .slice none 0 0], []⟩ 8 (by kernel_rfl) (by kernel_rfl) (by kernel_rfl) (by kernel_rfl)) ?_
  intro W base args ds gs before hval0 hW hcnd _
  have hval : ∀ (j : Nat) t v, Try.f8.params[j]? = some t → args[j]? = some v → Value.okWide Try.prog W .any base t v := hval0
  have hW' := hW
  obtain ⟨p, q, hA0, hV, rfl, hfz, hnd⟩ := hW
  have hA : DataW.TrodAll enc Try.prog W 0 (fun _ => true) true Try.f8.params.toList args.toList ds p := hA0
  rw [Try.params8] at hA hval
  obtain ⟨v0, vs0, d0, ds0, p0, q0, hargs, rfl, rfl, h0, r0⟩ := trodAll_cons hA
  obtain ⟨v1, vs1, d1, ds1, p1, q1, rfl, rfl, rfl, h1, r1⟩ := trodAll_cons r0
  obtain ⟨v2, vs2, d2, ds2, p2, q2, rfl, rfl, rfl, h2, r2⟩ := trodAll_cons r1
  obtain ⟨rfl, rfl, rfl⟩ := trodAll_nil r2
  obtain rfl : args = #[v0, v1, v2] := by cases args; simp_all
  obtain ⟨rfl, rfl⟩ := trodVars_none hV
  have k0 := h0
  have lt0 : ∀ x ∈ p0, x.block < W.heap.size := by obtain ⟨m, hm⟩ := k0; exact DataW.trod_lt m _ _ _ hm
  obtain ⟨sa0, sn0, sc0, rfl⟩ := okWide_slice Try.underlying50 (hval 0 50 v0 rfl rfl)
  have R0 : Reads enc Try.prog W 0 (fun _ => true) true 50 [.slice sa0 sn0 sc0] := reads_of_trod h0
  have k1 := h1
  have lt1 : ∀ x ∈ p1, x.block < W.heap.size := by obtain ⟨m, hm⟩ := k1; exact DataW.trod_lt m _ _ _ hm
  obtain ⟨sa1, sn1, sc1, rfl⟩ := okWide_slice Try.underlying50 (hval 1 50 v1 rfl rfl)
  have R1 : Reads enc Try.prog W 0 (fun _ => true) true 50 [.slice sa1 sn1 sc1] := reads_of_trod h1
  have k2 := h2
  have lt2 : ∀ x ∈ p2, x.block < W.heap.size := by obtain ⟨m, hm⟩ := k2; exact DataW.trod_lt m _ _ _ hm
  obtain ⟨sa2, sn2, sc2, rfl⟩ := okWide_slice Try.underlying50 (hval 2 50 v2 rfl rfl)
  have R2 : Reads enc Try.prog W 0 (fun _ => true) true 50 [.slice sa2 sn2 sc2] := reads_of_trod h2
  clear hA0 hval0
  refine Calls.mono (R := RetTrue W) ?_ fun e W' ⟨he, bel⟩ => ?_
  · obtain ⟨a, c, l, hh1, hh2, _⟩ := reads_slice OpV.cells 7 (fun _ => True) Try.underlying50 (by kernel_rfl) (fun _ => rfl) (fun row hr => op_of hr) R0
    injection hh1 with e1 e2 e3
    subst e1; subst e2; subst e3
    obtain ⟨a, c, l2, hh1, hh3, _⟩ := reads_slice OpV.cells 7 (fun _ => True) Try.underlying50 (by kernel_rfl) (fun _ => rfl) (fun row hr => op_of hr) R1
    injection hh1 with e1 e2 e3
    subst e1; subst e2; subst e3
    obtain ⟨a, c, l3, hh1, hh4, _⟩ := reads_slice OpV.cells 7 (fun _ => True) Try.underlying50 (by kernel_rfl) (fun _ => rfl) (fun row hr => op_of hr) R2
    injection hh1 with e1 e2 e3
    subst e1; subst e2; subst e3
    exact lazyJoins_walk _ _ _ l l2 l3 W _ hh2 hh3 hh4 (fun i hi => hi)
  subst he
  exact ⟨_, rfl, _, _, _, [], _, [], hW', trodAll_mk1 (shut_bool Try.underlying4 _), (trodAll_cons_mk (Below.trod laidOut (by kernel_rfl) (of_decide_eq_true (by kernel_rfl)) k0 bel lt0) (trodAll_cons_mk (Below.trod laidOut (by kernel_rfl) (of_decide_eq_true (by kernel_rfl)) k1 bel lt1) (trodAll_cons_mk (Below.trod laidOut (by kernel_rfl) (of_decide_eq_true (by kernel_rfl)) k2 bel lt2) trodAll_mk0))), rfl, bel.frame _, fun h => by cases h⟩

theorem over : Rows.lazyJoinsRow.holds Try.pinned (OpenSpec.ofChange Rows.lazyJoinsSpec) :=
  OpenClaim.holds_of_wide 8 Try.f8 rfl rfl rfl rfl rfl rfl rfl ⟨rfl, rfl, rfl, rfl, rfl⟩ rfl rfl rfl rfl rfl (by kernel_rfl) Try.func8 (by kernel_rfl)
    (of_decide_eq_true (by kernel_rfl)) (by unfold Func.isWrapper; first | (rw [if_pos (by decide +kernel)]; kernel_rfl) | (rw [if_neg (by decide +kernel)]; exact ⟨rfl, rfl⟩))
    (fun os started H enc _ => lifted os started H enc)
end Go.Proofs.Ytnadfefjmoibeaa.lazyJoins
namespace Go.Proofs.Ytnadfefjmoibeaa
/-- The given statement. -/
theorem lazyJoins_proved : Rows.LazyJoinsSaid := lazyJoins.over
end Go.Proofs.Ytnadfefjmoibeaa
