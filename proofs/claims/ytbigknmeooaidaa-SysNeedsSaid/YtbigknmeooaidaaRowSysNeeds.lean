/-
  SysNeeds answers true for every row of numbers, any system and any number; no condition.
-/
import Derived.Test.YtbigknmeooaidaaNd2
import Derived.Test.YtbigknmeooaidaaOpenSysN
import Derived.Test.YtbigknmeooaidaaOpen
namespace Go.Proofs.Ytbigknmeooaidaa.sysNeeds
open Go Go.ChangeShapes Go.WideShapes Go.ChangeAt Go.RowKit
open Go.ChangeMaps (open_string shut_string)
set_option linter.unusedVariables false
set_option linter.unusedSimpArgs false

theorem own : ownKnob Try.prog.godebug = none := by kernel_rfl
theorem laidOut : laidOutB Try.prog = true := by kernel_rfl

set_option maxRecDepth 100000 in
theorem lifted (os : Os) (started : os.Started) (H : Type) (enc : TypeId × Value → H) :
    ReturnsInHanded {} Try.checked os 7 .any (Rows.sysNeedsSpec.pre6 enc Try.prog Try.f7 Rows.sysNeedsRow.domain false) (Rows.sysNeedsSpec.post enc Try.prog Try.f7 false true false false) := by
  refine returnsInHanded_of_change_sized (C := Try.checked) own started (by kernel_rfl) Try.func7
    (ChangeSpec.witness6 (enc := enc) (C := Try.checked) false ⟨#[], #[.slice none 0 0, .agg #[.slice none 0 0, .slice none 0 0, .slice none 0 0, .int .i64 0, .slice none 0 0, .slice none 0 0, .slice none 0 0, .slice none 0 0, .bool false, .slice none 0 0, .slice none 0 0, .slice none 0 0], .int .i64 0], []⟩ 8 (by kernel_rfl) (by kernel_rfl) (by kernel_rfl) (by kernel_rfl)) ?_
  intro W base args ds gs before hval0 hW hcnd hsz0 _
  have hval : ∀ (j : Nat) t v, Try.f7.params[j]? = some t → args[j]? = some v → Value.okWide Try.prog W .any base t v := hval0
  have hW' := hW
  obtain ⟨p, q, hA0, hV, rfl, hfz, hnd⟩ := hW
  have hsz1 := hsz0
  have hA : DataW.TrodAll enc Try.prog W 0 (fun _ => true) true Try.f7.params.toList args.toList ds p := hA0
  rw [Try.params7] at hA hval
  obtain ⟨v0, vs0, d0, ds0, p0, q0, hargs, rfl, rfl, h0, r0⟩ := trodAll_cons hA
  obtain ⟨v1, vs1, d1, ds1, p1, q1, rfl, rfl, rfl, h1, r1⟩ := trodAll_cons r0
  obtain ⟨v2, vs2, d2, ds2, p2, q2, rfl, rfl, rfl, h2, r2⟩ := trodAll_cons r1
  obtain ⟨rfl, rfl, rfl⟩ := trodAll_nil r2
  obtain rfl : args = #[v0, v1, v2] := by cases args; simp_all
  obtain ⟨rfl, rfl⟩ := trodVars_none hV
  have hsz : (DataW.weightsEach Try.prog ([23, 52, 3] ++ Rows.sysNeedsSpec.plain.varTypes Try.prog) ([d0, d1, d2] ++ [])).all (· ≤ reachBytes) = true := by
    rw [Try.params7] at hsz1
    exact hsz1
  obtain ⟨a2, rfl, rfl, rfl, w2⟩ := open_int Try.underlying3 (hval 2 3 v2 rfl rfl) h2
  have k0 := h0
  have lt0 : ∀ x ∈ p0, x.block < W.heap.size := by obtain ⟨m, hm⟩ := k0; exact DataW.trod_lt m _ _ _ hm
  obtain ⟨sa1, sn1, sc1, rfl⟩ := okWide_slice Try.underlying23 (hval 0 23 v0 rfl rfl)
  have R0 : Reads enc Try.prog W 0 (fun _ => true) true 23 [.slice sa1 sn1 sc1] := reads_of_trod h0
  have k1 := h1
  have lt1 : ∀ x ∈ p1, x.block < W.heap.size := by obtain ⟨m, hm⟩ := k1; exact DataW.trod_lt m _ _ _ hm
  have R1 := reads_of_trod h1
  clear hA0 hval0
  refine Calls.mono (R := RetTrue W) ?_ fun e W' ⟨he, bel⟩ => ?_
  · obtain ⟨aw, cw, lw, g1, g2, _⟩ := reads_ints Try.underlying23 Try.underlying3 (by kernel_rfl) R0
    injection g1 with e1 e2 e3
    subst e1; subst e2; subst e3
    obtain ⟨y1, rfl, hy1, hf1⟩ := sysN_arg (hval 1 52 v1 rfl rfl) h1 (fun n hn => (by simpa using (List.all_eq_true.1 hsz n (DataW.weights_mem_each (j := 1) (t := 52) rfl rfl n hn))))
    refine (sysNeeds_walk _ lw y1 a2 W _ _ g2 hy1 (fun _ h => h) hf1).mono ?_
    rintro e w3 ⟨rfl, hk⟩
    exact ⟨rfl, hk.below⟩
  subst he
  exact ⟨_, rfl, _, _, _, [], _, [], hW', trodAll_mk1 (shut_bool Try.underlying4 _), (trodAll_cons_mk (Below.trod laidOut (by kernel_rfl) (of_decide_eq_true (by kernel_rfl)) k0 bel lt0) (trodAll_cons_mk (Below.trod laidOut (by kernel_rfl) (of_decide_eq_true (by kernel_rfl)) k1 bel lt1) (trodAll_cons_mk (shut_int Try.underlying3 w2) trodAll_mk0))), rfl, bel.frame _, fun h => by cases h⟩

theorem over : Rows.sysNeedsRow.holds Try.pinned (OpenSpec.ofChange Rows.sysNeedsSpec) :=
  OpenClaim.holds_of_wide 7 Try.f7 rfl rfl rfl rfl rfl rfl rfl ⟨rfl, rfl, rfl, rfl, rfl⟩ rfl rfl rfl rfl rfl (by kernel_rfl) Try.func7 (by kernel_rfl)
    (of_decide_eq_true (by kernel_rfl)) (by unfold Func.isWrapper; first | (rw [if_pos (by decide +kernel)]; kernel_rfl) | (rw [if_neg (by decide +kernel)]; exact ⟨rfl, rfl⟩))
    (fun os started H enc _ => lifted os started H enc)
end Go.Proofs.Ytbigknmeooaidaa.sysNeeds
namespace Go.Proofs.Ytbigknmeooaidaa
/-- The given statement. -/
theorem sysNeeds_proved : Rows.SysNeedsSaid := sysNeeds.over
end Go.Proofs.Ytbigknmeooaidaa
