/-
  Where an index is looked for first: the program's Home and the document's.
-/
import Derived.Test.YtcmbbkaioopkhaaProg
import Derived.Test.YtcmbbkaioopkhaaBase
namespace Go.Proofs.Ytcmbbkaioopkhaa
open Go Go.RowKit
set_option linter.unusedVariables false
set_option linter.unusedSimpArgs false

/-- Whether an index and a size may be. -/
def mayHome (i size : Int) : Bool := decide (0 ≤ i) && (decide (i < 65536) && (decide (8 ≤ size) && (decide (size ≤ 1048576) && (bits .and .i64 size (size - 1) == 0))))
/-- The home of what may be. -/
def homeOf (i size : Int) : Int := (i * 2654435761 % 4294967296) / (4294967296 / size)
def home (i size : Int) : Int := if mayHome i size = true then homeOf i size else -1

theorem home_div (size : Int) (h2 : 8 ≤ size) (h3 : size ≤ 1048576) : 1 ≤ 4294967296 / size := (Int.le_ediv_iff_mul_le (by omega)).2 (by omega)
theorem home_bd (i size : Int) (h2 : 8 ≤ size) (h3 : size ≤ 1048576) : 0 ≤ homeOf i size ∧ homeOf i size ≤ 4294967296 := by
  unfold homeOf
  have a1 : 0 ≤ i * 2654435761 % 4294967296 := by omega
  have a2 : i * 2654435761 % 4294967296 < 4294967296 := by omega
  have a3 := home_div size h2 h3
  exact ⟨Int.ediv_nonneg a1 (by omega), Int.le_trans (Int.ediv_le_self _ a1) (by omega)⟩
theorem home_wrap (i size : Int) (h2 : 8 ≤ size) (h3 : size ≤ 1048576) : wrap64 (homeOf i size) = homeOf i size := by
  have a := home_bd i size h2 h3
  exact IntWalk.wrap64_in _ (by omega)

set_option maxHeartbeats 1000000 in
theorem hash_home_no (i size : Int) (w : World) (h : mayHome i size = false) (hi : -9223372036854775808 ≤ i ∧ i ≤ 9223372036854775807) (hs : -9223372036854775808 ≤ size ∧ size ≤ 9223372036854775807) :
    Calls Try.prog 12 #[.int .i64 i, .int .i64 size] w fun e w' => e = .returned (.int .i64 (-1)) ∧ w = w' := by
  have HM := Lib.hid h; clear h
  by_cases h1 : i < 0
  · go_enter Try.func12, Try.ntmps12
    go_wp2_with fail
    go_ret
    exact ⟨rfl, rfl⟩
  · by_cases h2 : 65536 ≤ i
    · go_enter Try.func12, Try.ntmps12
      go_wp2_with fail
      go_ret
      exact ⟨rfl, rfl⟩
    · by_cases h3 : size < 8
      · go_enter Try.func12, Try.ntmps12
        go_wp2_with fail
        go_ret
        exact ⟨rfl, rfl⟩
      · by_cases h4 : 1048576 < size
        · go_enter Try.func12, Try.ntmps12
          go_wp2_with fail
          go_ret
          exact ⟨rfl, rfl⟩
        · have h5 : (bits .and .i64 size (size - 1) != 0) = true := by
            have := HM.out
            simp [mayHome] at this
            have := this (by omega) (by omega) (by omega) (by omega)
            simpa [bne_iff_ne] using this
          go_enter Try.func12, Try.ntmps12
          go_wp2_with fail
          go_ret
          exact ⟨rfl, rfl⟩

set_option maxHeartbeats 1000000 in
theorem hash_home_yes (i size : Int) (w : World) (h : mayHome i size = true) :
    Calls Try.prog 12 #[.int .i64 i, .int .i64 size] w fun e w' => e = .returned (.int .i64 (homeOf i size)) ∧ w = w' := by
  simp [mayHome] at h
  obtain ⟨h1, h2, h3, h4, h5⟩ := h
  have h6 : (bits .and .i64 size (size - 1) != 0) = false := by simp [h5]
  have h7 := home_div size h3 h4
  have HW := Lib.hid (home_wrap i size h3 h4)
  clear h5
  go_enter Try.func12, Try.ntmps12
  go_wp2_with fail
  all_goals try (exfalso; omega)
  go_ret
  refine ⟨?_, rfl⟩
  show Ending.returned (.int .i64 (wrap64 (homeOf i size))) = _
  rw [HW.out]

set_option maxHeartbeats 1000000 in
theorem ref_home_yes (i size : Int) (w : World) (h : mayHome i size = true) :
    Calls Try.prog 13 #[.int .i64 i, .int .i64 size] w fun e w' => e = .returned (.int .i64 (homeOf i size)) ∧ w = w' := by
  simp [mayHome] at h
  obtain ⟨h1, h2, h3, h4, h5⟩ := h
  have h6 : (bits .and .i64 size (size - 1) != 0) = false := by simp [h5]
  have h7 := home_div size h3 h4
  have HW := Lib.hid (home_wrap i size h3 h4)
  clear h5
  go_enter Try.func13, Try.ntmps13
  go_wp2
  all_goals try (exfalso; omega)
  go_ret
  refine ⟨?_, rfl⟩
  show Ending.returned (.int .i64 (wrap64 (homeOf i size))) = _
  rw [HW.out]

set_option maxHeartbeats 1000000 in
theorem ref_home_no (i size : Int) (w : World) (h : mayHome i size = false) (hi : -9223372036854775808 ≤ i ∧ i ≤ 9223372036854775807) (hs : -9223372036854775808 ≤ size ∧ size ≤ 9223372036854775807) :
    Calls Try.prog 13 #[.int .i64 i, .int .i64 size] w fun e w' => e = .returned (.int .i64 (-1)) ∧ w = w' := by
  have HM := Lib.hid h; clear h
  by_cases h3 : size < 8
  · go_enter Try.func13, Try.ntmps13
    go_wp2
    go_ret
    exact ⟨rfl, rfl⟩
  · by_cases h4 : 1048576 < size
    · go_enter Try.func13, Try.ntmps13
      go_wp2
      go_ret
      exact ⟨rfl, rfl⟩
    · by_cases h5 : (bits .and .i64 size (size - 1) != 0) = true
      · go_enter Try.func13, Try.ntmps13
        go_wp2
        go_ret
        exact ⟨rfl, rfl⟩
      · have h5' : (bits .and .i64 size (size - 1) != 0) = false := by simpa using h5
        have h6 : ¬ (0 ≤ i ∧ i < 65536) := by
          intro hh
          have := HM.out
          simp [mayHome] at this
          have := this hh.1 hh.2 (by omega) (by omega)
          simp [this] at h5'
        clear h5
        by_cases h1 : i < 0
        · clear h6
          go_enter Try.func13, Try.ntmps13
          go_wp2
          go_ret
          exact ⟨rfl, rfl⟩
        · have h2 : 65536 ≤ i := by omega
          have hd : decide (i < 65536) = false := decide_eq_false (by omega)
          clear h6
          go_enter Try.func13, Try.ntmps13
          go_wp2
          go_ret
          exact ⟨rfl, rfl⟩
end Go.Proofs.Ytcmbbkaioopkhaa
