/-
  The package code: may instructions be.
-/
import Derived.Test.YtbigknmeooaidaaChk4
namespace Go.Proofs.Ytbigknmeooaidaa
open Go Go.RowKit
set_option linter.unusedVariables false
set_option linter.unusedSimpArgs false

/-- What is told of an instruction's shape. -/
def RetShape (w : World) (op : Int) (en : Ending) (w' : World) : Prop :=
  ∃ nm : ByteArray, en = .returned (.tuple #[.agg #[.string nm, .bool (shR op), .bool (shS op), .bool (shN op), .bool (shU op)], .bool (shIs op)]) ∧ Keep w w' Nope
set_option maxRecDepth 8000 in
set_option maxHeartbeats 1000000 in
theorem code_Of (op : Int) (w : World) : Calls Try.prog 98 #[.int .i64 op] w (RetShape w op) := by
  obtain ⟨w0, hw0⟩ : ∃ w0, w0 = w.alloc (.cells #[.string ⟨#[]⟩, .bool false, .bool false, .bool false, .bool false] 133) := ⟨_, rfl⟩
  have hk0 : Keep w w0 Nope := by rw [hw0]; exact (Keep.refl w Nope).alloc _
  have hb0 : Blk w0 w.heap.size #[.string ⟨#[]⟩, .bool false, .bool false, .bool false, .bool false] 133 := by rw [hw0]; exact Blk.new w _ _
  have HK0 := Lib.hid hk0
  have HB0 := Lib.hid hb0
  have HW0 := Lib.hid hw0
  clear hk0 hb0 hw0
  have hno : op < 1 ∨ 18 < op → shR op = false ∧ shS op = false ∧ shN op = false ∧ shU op = false ∧ shIs op = false := by
    intro h
    unfold shR shS shN shU shIs
    refine ⟨decide_eq_false (by omega), decide_eq_false (by omega), decide_eq_false (by omega), decide_eq_false (by omega), ?_⟩
    rcases h with h | h
    · rw [decide_eq_false (show ¬ 1 ≤ op by omega)]; rfl
    · rw [decide_eq_false (show ¬ op ≤ 18 by omega), Bool.and_false]
  by_cases h1 : op < 1
  · have d1 : decide (op < 1) = true := decide_eq_true h1
    have HN := Lib.hid (hno (.inl h1)); clear hno
    go_enter Try.func98, Try.ntmps98
    go_wp2_with fail
    rw [← HW0.out]
    refine bodyPost_ret (v := .tuple #[.agg #[.string ⟨#[]⟩, .bool false, .bool false, .bool false, .bool false], .bool false]) ?_ rfl ⟨⟨#[]⟩, ?_, HK0.out⟩
    · rw [results_cell_tmp rfl]
      simp [asAddr, run_loadVar_row (P := Try.prog) w0 w.heap.size 133 133 #[.string ⟨#[]⟩, .bool false, .bool false, .bool false, .bool false] (0, 0) _ HB0.out Try.underlying133 rfl (by kernel_rfl)]
    · obtain ⟨e1, e2, e3, e4, e5⟩ := HN.out
      rw [e1, e2, e3, e4, e5]
  have d1 : decide (op < 1) = false := decide_eq_false h1
  by_cases h2 : op > 18
  · have d2 : decide (op > 18) = true := decide_eq_true h2
    have HN := Lib.hid (hno (.inr h2)); clear hno
    go_enter Try.func98, Try.ntmps98
    go_wp2_with fail
    rw [← HW0.out]
    refine bodyPost_ret (v := .tuple #[.agg #[.string ⟨#[]⟩, .bool false, .bool false, .bool false, .bool false], .bool false]) ?_ rfl ⟨⟨#[]⟩, ?_, HK0.out⟩
    · rw [results_cell_tmp rfl]
      simp [asAddr, run_loadVar_row (P := Try.prog) w0 w.heap.size 133 133 #[.string ⟨#[]⟩, .bool false, .bool false, .bool false, .bool false] (0, 0) _ HB0.out Try.underlying133 rfl (by kernel_rfl)]
    · obtain ⟨e1, e2, e3, e4, e5⟩ := HN.out
      rw [e1, e2, e3, e4, e5]
  have d2 : decide (op > 18) = false := decide_eq_false h2
  clear hno
  obtain ⟨k, rfl⟩ : ∃ k : Nat, op = k := ⟨op.toNat, by omega⟩
  have hk1 : 1 ≤ k := by omega
  have hk2 : k ≤ 18 := by omega
  obtain ⟨nm, s0, s1, s2, s3, s4⟩ := shapes_at k hk1 hk2
  have hIs : shIs k = true := by unfold shIs; rw [decide_eq_true (show (1 : Int) ≤ k by omega), decide_eq_true (show (k : Int) ≤ 18 by omega)]; rfl
  have HIS := Lib.hid hIs
  obtain ⟨r1, hr1⟩ : ∃ r, shR k = r := ⟨_, rfl⟩
  obtain ⟨r2, hr2⟩ : ∃ r, shS k = r := ⟨_, rfl⟩
  obtain ⟨r3, hr3⟩ : ∃ r, shN k = r := ⟨_, rfl⟩
  obtain ⟨r4, hr4⟩ : ∃ r, shU k = r := ⟨_, rfl⟩
  rw [hr1] at s1; rw [hr2] at s2; rw [hr3] at s3; rw [hr4] at s4
  have HRR := Lib.hid (And.intro hr1 (And.intro hr2 (And.intro hr3 hr4)))
  have HS := Lib.hid (And.intro s0 (And.intro s1 (And.intro s2 (And.intro s3 s4))))
  clear s0 s1 s2 s3 s4 hIs h1 h2 hr1 hr2 hr3 hr4
  have hki : (k : Int) < 19 := by omega
  go_enter Try.func98, Try.ntmps98
  go_upto_region 3 with (fail)
  rw [← HW0.out]
  go_upto_region 4 with (first
    | (go_at_call 111; refine (code_shapes _).mono ?_; rintro e w1 ⟨rfl, hk⟩; have HB1 := Lib.hid (HB0.out.keep hk (fun f => f)); have HK1 := Lib.hid (HK0.out.trans hk (fun _ f => f.elim)); clear hk)
    | (refine wpList_store_row rfl 146 _ _ rfl _ shapesV rfl rfl 146 Try.zeroCells146 (heap_alloc_new _ _) (by kernel_rfl) (by kernel_rfl) (by kernel_rfl) ?_; rw [World.setRow_alloc_new]))
  obtain ⟨w2, hw2⟩ : ∃ w2, w2 = w1.alloc (.cells shapesV 146) := ⟨_, rfl⟩
  have hk2' : Keep w1 w2 Nope := by rw [hw2]; exact (Keep.refl w1 Nope).alloc _
  have hbs : Blk w2 w1.heap.size shapesV 146 := by rw [hw2]; exact Blk.new w1 _ _
  have hbz := HB1.out.keep hk2' (fun f => f)
  rw [← hw2]
  have HK2 := Lib.hid (HK1.out.trans hk2' (fun _ f => f.elim))
  have HBZ := Lib.hid hbz
  have HBS := Lib.hid hbs
  have hne : w.heap.size ≠ w1.heap.size := fun e => by
    have := HB1.out.lt
    omega
  clear hw2 hk2' hbz hbs
  obtain ⟨g1, hg1⟩ : ∃ g, g = w1.heap.size := ⟨_, rfl⟩
  obtain ⟨g0, hg0⟩ : ∃ g, g = w.heap.size := ⟨_, rfl⟩
  have HGE := Lib.hid (show w.heap.size ≤ g0 by omega)
  rw [← hg1] at HBS hne ⊢
  rw [← hg0] at HBZ hne ⊢
  clear HB1 HB0 HW0 hg1 hg0
  have s0 : w2.cell? ⟨g1, k * 5, none⟩ = some (.string nm) := by rw [HBS.out.cell]; exact HS.out.1
  have s1 : w2.cell? ⟨g1, k * 5 + 1, none⟩ = some (.bool r1) := by rw [HBS.out.cell]; exact HS.out.2.1
  have s2 : w2.cell? ⟨g1, k * 5 + 2, none⟩ = some (.bool r2) := by rw [HBS.out.cell]; exact HS.out.2.2.1
  have s3 : w2.cell? ⟨g1, k * 5 + 3, none⟩ = some (.bool r3) := by rw [HBS.out.cell]; exact HS.out.2.2.2.1
  have s4 : w2.cell? ⟨g1, k * 5 + 4, none⟩ = some (.bool r4) := by rw [HBS.out.cell]; exact HS.out.2.2.2.2
  go_wp2_with (refine wpList_store_row rfl 133 _ _ rfl g0 #[.string nm, .bool r1, .bool r2, .bool r3, .bool r4] rfl rfl 133 _ HBZ.out (by kernel_rfl) rfl (by kernel_rfl) ?_)
  refine bodyPost_ret (v := .tuple #[.agg #[.string nm, .bool r1, .bool r2, .bool r3, .bool r4], .bool true]) ?_ rfl ⟨nm, ?_, HK2.out.setRow (.inr HGE.out) _⟩
  · rw [results_cell_tmp rfl]
    simp [asAddr, run_loadVar_row (P := Try.prog) (w2.setRow g0 #[.string nm, .bool r1, .bool r2, .bool r3, .bool r4]) g0 133 133 #[.string nm, .bool r1, .bool r2, .bool r3, .bool r4] (0, 0) _ (setRow_heap _ _ _ _ _ _ HBZ.out) Try.underlying133 rfl (by kernel_rfl)]
  · obtain ⟨e1, e2, e3, e4⟩ := HRR.out
    rw [e1, e2, e3, e4, HIS.out]

def regB (named : Bool) (r : Int) : Bool := decide (0 ≤ r) && decide (r < 4) && (named || r == 0)
set_option maxHeartbeats 400000 in
theorem ok_reg (named : Bool) (r : Int) (w : World) :
    Calls Try.prog 99 #[.bool named, .int .i64 r] w (fun e w' => e = .returned (.bool (regB named r)) ∧ w = w') := by
  unfold regB
  by_cases h0 : r ≥ 0
  · have d0 : decide (r ≥ 0) = true := decide_eq_true h0
    have d0' : decide (0 ≤ r) = true := decide_eq_true h0
    by_cases h4 : r < 4
    · have d4 : decide (r < 4) = true := decide_eq_true h4
      cases named <;> cases hz : (r == 0)
      all_goals
        go_enter Try.func99, Try.ntmps99
        go_wp2_with fail
        go_ret
        exact ⟨by simp [d0', d4], rfl⟩
    · have d4 : decide (r < 4) = false := decide_eq_false h4
      go_enter Try.func99, Try.ntmps99
      go_wp2_with fail
      go_ret
      exact ⟨by simp [d0', d4], rfl⟩
  · have d0 : decide (r ≥ 0) = false := decide_eq_false h0
    have d0' : decide (0 ≤ r) = false := decide_eq_false h0
    go_enter Try.func99, Try.ntmps99
    go_wp2_with fail
    go_ret
    exact ⟨by simp [d0'], rfl⟩
end Go.Proofs.Ytbigknmeooaidaa
