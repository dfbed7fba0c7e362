/-
  FlagPlays answers true for any number and any script; no condition.
-/
import Derived.Test.YtcmbbkaioopkhaaFlagPlays
import Derived.Test.YtcmbbkaioopkhaaOpenEv
import Derived.Test.YtcmbbkaioopkhaaOpen
namespace Go.Proofs.Ytcmbbkaioopkhaa.flagPlays
open Go Go.ChangeShapes Go.WideShapes Go.ChangeAt Go.RowKit
open Go.ChangeMaps (open_string shut_string)
set_option linter.unusedVariables false
set_option linter.unusedSimpArgs false

theorem own : ownKnob Try.prog.godebug = none := by kernel_rfl
theorem laidOut : laidOutB Try.prog = true := by kernel_rfl

theorem len_three {α : Type} {l : List α} (h : l.length = 3) : ∃ a b c, l = [a, b, c] := by
  cases l with
  | nil => cases h
  | cons a t =>
    obtain ⟨b, c, rfl⟩ := len_two (show t.length = 2 by simpa using h)
    exact ⟨a, b, c, rfl⟩
def FopT (w : World) (x : FOp) : Prop := (∃ a n c, x.v = .slice a n c) ∧ Rd (fun i => i < w.heap.size) w x.v x.evs.length (flatEv x.evs)
theorem fop_of {H : Type} {enc : TypeId × Value → H} {w : World} {base : Nat} {sp : Nat → Bool} {held : Bool} {row : List Value} (h : Reads enc Try.prog w base sp held 49 row) :
    ∃ x : FOp, row = x.cells ∧ FopT w x := by
  obtain ⟨h1, h2⟩ := reads_struct Try.underlying49 h
  have c : Try.prog.cellsOf 49 = 3 := by kernel_rfl
  have c1 : Try.prog.cellsOf 3 = 1 := by kernel_rfl
  have c2 : Try.prog.cellsOf 35 = 1 := by kernel_rfl
  rw [c] at h1
  obtain ⟨a, b, e, rfl⟩ := len_three h1
  have f0 : Reads enc Try.prog w base sp held 3 [a] := by have f := h2 0 _ rfl; simpa [c1] using f
  have f1 : Reads enc Try.prog w base sp held 3 [b] := by have f := h2 1 _ rfl; simpa [c1] using f
  have f2 : Reads enc Try.prog w base sp held 35 [e] := by have f := h2 2 _ rfl; simpa [c2] using f
  obtain ⟨n0, e0, _⟩ := reads_int Try.underlying3 f0
  obtain ⟨n1, e1, _⟩ := reads_int Try.underlying3 f1
  obtain ⟨sa, sc, l, e2, hR⟩ := evs_of f2
  simp at e0 e1
  subst e0; subst e1
  exact ⟨⟨n0, n1, e, l⟩, rfl, ⟨_, _, _, e2⟩, hR⟩
theorem fops_of {H : Type} {enc : TypeId × Value → H} {w : World} {base : Nat} {sp : Nat → Bool} {held : Bool} {v : Value} (h : Reads enc Try.prog w base sp held 44 [v]) :
    ∃ (a : Option Addr) (c : Nat) (l : List FOp), v = .slice a l.length c ∧ Rd (fun i => i < w.heap.size) w v l.length (l.flatMap FOp.cells) ∧ ∀ x ∈ l, FopT w x :=
  reads_slice FOp.cells 3 (FopT w) Try.underlying44 (by kernel_rfl) (fun _ => rfl) (fun row hr => fop_of hr) h

set_option maxRecDepth 100000 in
theorem lifted (os : Os) (started : os.Started) (H : Type) (enc : TypeId × Value → H) :
    ReturnsInHanded {} Try.checked os 6 .any (Rows.flagPlaysSpec.pre6 enc Try.prog Try.f6 Rows.flagPlaysRow.domain false) (Rows.flagPlaysSpec.post enc Try.prog Try.f6 false true false false) := by
  refine returnsInHanded_of_change (C := Try.checked) own started (by kernel_rfl) Try.func6
    (ChangeSpec.witness6 (enc := enc) (C := Try.checked) false ⟨#[], #[.int .i64 0, .slice none 0 0], []⟩ 8 (by kernel_rfl) (by kernel_rfl) (by kernel_rfl) (by kernel_rfl)) ?_
  intro W base args ds gs before hval0 hW hcnd _
  have hval : ∀ (j : Nat) t v, Try.f6.params[j]? = some t → args[j]? = some v → Value.okWide Try.prog W .any base t v := hval0
  have hW' := hW
  obtain ⟨p, q, hA0, hV, rfl, hfz, hnd⟩ := hW
  have hA : DataW.TrodAll enc Try.prog W 0 (fun _ => true) true Try.f6.params.toList args.toList ds p := hA0
  rw [Try.params6] at hA hval
  obtain ⟨v0, vs0, d0, ds0, p0, q0, hargs, rfl, rfl, h0, r0⟩ := trodAll_cons hA
  obtain ⟨v1, vs1, d1, ds1, p1, q1, rfl, rfl, rfl, h1, r1⟩ := trodAll_cons r0
  obtain ⟨rfl, rfl, rfl⟩ := trodAll_nil r1
  obtain rfl : args = #[v0, v1] := by cases args; simp_all
  obtain ⟨rfl, rfl⟩ := trodVars_none hV
  obtain ⟨a0, rfl, rfl, rfl, w0⟩ := open_int Try.underlying3 (hval 0 3 v0 rfl rfl) h0
  have k1 := h1
  have lt1 : ∀ x ∈ p1, x.block < W.heap.size := by obtain ⟨m, hm⟩ := k1; exact DataW.trod_lt m _ _ _ hm
  obtain ⟨sa1, sn1, sc1, rfl⟩ := okWide_slice Try.underlying44 (hval 1 44 v1 rfl rfl)
  have R1 : Reads enc Try.prog W 0 (fun _ => true) true 44 [.slice sa1 sn1 sc1] := reads_of_trod h1
  clear hA0 hval0
  refine Calls.mono (R := RetTrue W) ?_ fun e W' ⟨he, bel⟩ => ?_
  · obtain ⟨aw, cw, lw, g1, g2, g3⟩ := fops_of R1
    injection g1 with e1 e2 e3
    subst e1; subst e2; subst e3
    exact flagPlays_walk _ _ lw W _ g2 (fun i hi => hi) g3
  subst he
  exact ⟨_, rfl, _, _, _, [], _, [], hW', trodAll_mk1 (shut_bool Try.underlying4 _), (trodAll_cons_mk (shut_int Try.underlying3 w0) (trodAll_cons_mk (Below.trod laidOut (by kernel_rfl) (of_decide_eq_true (by kernel_rfl)) k1 bel lt1) trodAll_mk0)), rfl, bel.frame _, fun h => by cases h⟩

theorem over : Rows.flagPlaysRow.holds Try.pinned (OpenSpec.ofChange Rows.flagPlaysSpec) :=
  OpenClaim.holds_of_wide 6 Try.f6 rfl rfl rfl rfl rfl rfl rfl ⟨rfl, rfl, rfl, rfl, rfl⟩ rfl rfl rfl rfl rfl (by kernel_rfl) Try.func6 (by kernel_rfl)
    (of_decide_eq_true (by kernel_rfl)) (by unfold Func.isWrapper; first | (rw [if_pos (by decide +kernel)]; kernel_rfl) | (rw [if_neg (by decide +kernel)]; exact ⟨rfl, rfl⟩))
    (fun os started H enc _ => lifted os started H enc)
end Go.Proofs.Ytcmbbkaioopkhaa.flagPlays
namespace Go.Proofs.Ytcmbbkaioopkhaa
/-- The given statement. -/
theorem flagPlays_proved : Rows.FlagPlaysSaid := flagPlays.over
end Go.Proofs.Ytcmbbkaioopkhaa
