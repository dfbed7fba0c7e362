/-
  The library's Grow, by the kit's contract, laid at this program (as the kit's command shelf_lay_g lays); at a nil row.
-/
import Derived.Shelf.Spec.SlicesGrow
import Derived.Test.YtbigknmeooaidaaStg3
namespace Go.Proofs
open Go.Shelf
def Try.laysNm84_ren : Go.Shelf.Ren := ⟨fun | 4 => 100 | n => n, fun | 22 => 23 | 25 => 3 | n => n, fun | n => n⟩
theorem Try.laysNm84 : Go.Proofs.Lays8.n4 Try.prog Try.laysNm84_ren := {
  mixed := by kernel_rfl
  f4 := ⟨"slices.Grow[[]int,int]", by decide, Try.func100.trans (congrArg some (by kernel_rfl))⟩
  t0 := Try.underlying0
  a0 := Try.isAgg0
  z0 := Try.sizeOf0
  v0 := Try.zeroValue0
  t3 := Try.underlying3
  a3 := Try.isAgg3
  z3 := Try.sizeOf3
  v3 := Try.zeroValue3
  t4 := Try.underlying4
  a4 := Try.isAgg4
  z4 := Try.sizeOf4
  v4 := Try.zeroValue4
  t9 := Try.underlying9
  a9 := Try.isAgg9
  z9 := Try.sizeOf9
  v9 := Try.zeroValue9
  t20 := Try.underlying20
  a20 := Try.isAgg20
  z20 := Try.sizeOf20
  v20 := Try.zeroValue20
  t22 := Try.underlying23
  a22 := Try.isAgg23
  z22 := Try.sizeOf23
  v22 := Try.zeroValue23 }
end Go.Proofs
namespace Go.Proofs.Ytbigknmeooaidaa
open Go Go.RowKit
set_option linter.unusedVariables false
set_option linter.unusedSimpArgs false
theorem int_info : ∃ i, Try.prog.info? 3 = some i ∧ i.zero = some (.int .i64 0) ∧ i.size = 1 ∧ i.bytes = 8 := by
  obtain ⟨ht, ⟨i, z, hi, hz, hsize, hby, hzs⟩, hsz⟩ := slInt
  refine ⟨i, hi, ?_, hsize, hby⟩
  have : (Try.prog.info? 3).bind (·.zero) = some (.int .i64 0) := by kernel_rfl
  rw [hi] at this
  exact this
/-- Room for n numbers, of a nil row. -/
theorem grow_nil (n : Nat) (hn : n ≤ 1000000) (w : World) :
    Calls Try.prog 100 #[.slice none 0 0, .int .i64 (n : Int)] w (fun e w' => ∃ (a : Option Addr) (c : Nat), e = .returned (.slice a 0 c) ∧ Keep w w' Nope ∧ Own (New w w') w' 3 1 (.slice a 0 c) 0 []) := by
  by_cases h0 : n = 0
  · subst h0
    refine (Any8.slices_Grow_room Try.laysNm84 none 0 0 0 w (Nat.le_refl _) (by omega) (by omega) (Nat.le_refl _)).mono ?_
    rintro e w' ⟨rfl, rfl⟩
    exact ⟨none, 0, rfl, Keep.refl _ _, Own.nil _ _ _ _⟩
  · obtain ⟨i, hi, hz, hs, hb⟩ := int_info
    refine (Any8.slices_Grow_grow Try.laysNm84 i _ hi hz (by omega) none 0 0 n [] w (Nat.le_refl _) (by omega) (by rw [hb]; omega) (by omega) (by simp) (fun _ => rfl) (fun a h => by cases h)).mono ?_
    rintro e w' ⟨rfl, rfl⟩
    have hge := grownCap_ge w (0 + n) 0 (Try.laysNm84_ren.t 25)
    have hle := grownCap_le_maxLen w (0 + n) 0 (Try.laysNm84_ren.t 25) (by unfold maxLen; omega)
    refine ⟨_, _, rfl, (Keep.refl w Nope).drew.alloc _, ⟨⟨rfl, .inr ⟨w.heap.size, _, _, rfl, Nat.zero_le _, heap_alloc_new w.drew _, Nat.zero_le _, hle, ?_, by simp⟩⟩, fun g hg => ?_⟩⟩
    · simp only [Array.size_append, List.size_toArray, size_zeroCells, List.length_nil]
      rw [Nat.zero_add] at hge ⊢
      simp [Value.cells]
      omega
    · simp [Value.ownBlock] at hg
      subst hg
      exact ⟨Nat.le_refl _, by rw [World.size_alloc]; exact Nat.lt_succ_self _⟩
end Go.Proofs.Ytbigknmeooaidaa
