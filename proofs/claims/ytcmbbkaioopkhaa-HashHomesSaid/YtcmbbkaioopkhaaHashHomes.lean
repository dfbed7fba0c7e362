/-
  HashHomes: where an index is looked for first is told as the document says.
-/
import Derived.Test.YtcmbbkaioopkhaaHash6
namespace Go.Proofs.Ytcmbbkaioopkhaa
open Go Go.RowKit
set_option linter.unusedVariables false
set_option linter.unusedSimpArgs false

theorem hash_home_any (i size : Int) (w : World) (hi : -9223372036854775808 ≤ i ∧ i ≤ 9223372036854775807) (hs : -9223372036854775808 ≤ size ∧ size ≤ 9223372036854775807) :
    Calls Try.prog 12 #[.int .i64 i, .int .i64 size] w fun e w' => e = .returned (.int .i64 (home i size)) ∧ w = w' := by
  unfold home
  cases h : mayHome i size
  · simpa using hash_home_no i size w h hi hs
  · simpa using hash_home_yes i size w h
theorem ref_home_any (i size : Int) (w : World) (hi : -9223372036854775808 ≤ i ∧ i ≤ 9223372036854775807) (hs : -9223372036854775808 ≤ size ∧ size ≤ 9223372036854775807) :
    Calls Try.prog 13 #[.int .i64 i, .int .i64 size] w fun e w' => e = .returned (.int .i64 (home i size)) ∧ w = w' := by
  unfold home
  cases h : mayHome i size
  · simpa using ref_home_no i size w h hi hs
  · simpa using ref_home_yes i size w h

theorem half_home (I : Int) (n : Nat) (hP : Pow n) (hn : n ≤ 32768) : homeOf I n / 2 = homeOf I (2 * n) / 4 := by
  unfold homeOf
  have a1 : 0 ≤ I * 2654435761 % 4294967296 := by omega
  have a2 : I * 2654435761 % 4294967296 < 4294967296 := by omega
  rcases hP.cases with rfl | rfl | rfl | rfl | rfl | rfl | rfl | rfl | rfl | rfl | rfl | rfl | rfl | rfl | rfl | rfl | rfl | rfl <;> simp at hn <;> simp <;> omega

set_option maxHeartbeats 4000000 in
theorem hashHomes_walk (i size : Int) (w : World) (hi : -9223372036854775808 ≤ i ∧ i ≤ 9223372036854775807) (hs : -9223372036854775808 ≤ size ∧ size ≤ 9223372036854775807) :
    Calls Try.prog 3 #[.int .i64 i, .int .i64 size] w (RetTrue w) := by
  obtain ⟨I, hI, hI2⟩ : ∃ I : Nat, bits .and .i64 i 65535 = (I : Int) ∧ I < 65536 := by
    rw [and_mask i 16 65535 (by decide) rfl]
    exact ⟨(i % 65536).toNat, by omega, by omega⟩
  obtain ⟨k, hk, hk13⟩ : ∃ k : Nat, (bits .and .i64 size 15).tmod 13 = (k : Int) ∧ k < 13 := by
    rw [and_mask size 4 15 (by decide) rfl]
    have h0 := Int.emod_nonneg size (show ((2 ^ 4 : Nat) : Int) ≠ 0 by decide)
    rw [Int.tmod_eq_emod_of_nonneg h0]
    exact ⟨(size % ((2 ^ 4 : Nat) : Int) % 13).toNat, by omega, by omega⟩
  obtain ⟨N, hN⟩ : ∃ N, 8 * 2 ^ k = N := ⟨_, rfl⟩
  have hP : Pow N := ⟨k, by omega, hN.symm⟩
  have hN3 : N ≤ 32768 := by
    rw [← hN]
    have : k = 0 ∨ k = 1 ∨ k = 2 ∨ k = 3 ∨ k = 4 ∨ k = 5 ∨ k = 6 ∨ k = 7 ∨ k = 8 ∨ k = 9 ∨ k = 10 ∨ k = 11 ∨ k = 12 := by omega
    rcases this with rfl | rfl | rfl | rfl | rfl | rfl | rfl | rfl | rfl | rfl | rfl | rfl | rfl <;> simp
  have hNc : (8 * 2 ^ k : Int) = (N : Int) := by rw [← hN]; simp
  have HW := Lib.hid (show wrap64 (8 * 2 ^ k) = (N : Int) by rw [hNc]; exact IntWalk.wrap64_in _ (by omega))
  have hP2 := hP.twice (by omega)
  have hI0 : (0 : Int) ≤ I := by omega
  have hI6 : (I : Int) < 65536 := by omega
  have hm := hP.may I hI0 hI6
  have hm2 := hP2.may I hI0 hI6
  have hl := hP.lt I hI0 hI6
  have hl2 := hP2.lt I hI0 hI6
  have hq := half_home I N hP hN3
  rw [Int.natCast_mul] at hm2 hl2
  have HY1 := Lib.hid (fun w => hash_home_yes (I : Int) N w hm)
  have HY2 := Lib.hid (fun w => ref_home_yes (I : Int) N w hm)
  have HY3 := Lib.hid (fun w => hash_home_yes (I : Int) ((2 : Nat) * (N : Int)) w hm2)
  obtain ⟨G, hG⟩ : ∃ G, homeOf I N = G := ⟨_, rfl⟩
  obtain ⟨G2, hG2⟩ : ∃ G2, homeOf I (2 * (N : Int)) = G2 := ⟨_, rfl⟩
  rw [hG] at HY1 HY2 hl hq
  rw [show homeOf (I : Int) (((2 : Nat) : Int) * (N : Int)) = G2 from hG2] at HY3 hl2
  rw [hG2] at hq
  have hG0 := hl.1
  have hGN := hl.2
  have hG20 := hl2.1
  have hG2b : G2 ≤ 1000000 := by have := hl2.2; omega
  have HQ := Lib.hid hq
  clear hN hP hNc hP2 hm hm2 hl hl2 hG hG2 hq
  have HI := Lib.hid hi
  have HS := Lib.hid hs
  obtain ⟨h, hh⟩ : ∃ h, home i size = h := ⟨_, rfl⟩
  have HC1 := Lib.hid (fun w => hash_home_any i size w hi hs)
  have HC2 := Lib.hid (fun w => ref_home_any i size w hi hs)
  rw [hh] at HC1 HC2
  clear hi hs hh
  go_enter Try.func3, Try.ntmps3
  go_wp2_with fail
  refine (HC1.out _).mono ?_
  rintro e w1 ⟨rfl, rfl⟩
  go_wp2_with fail
  refine (HC2.out _).mono ?_
  rintro e w1 ⟨rfl, rfl⟩
  go_wp2_with fail
  go_quiet (fail)
  go_wp2_with fail
  rw [HW.out]
  refine (HY1.out _).mono ?_
  rintro e w1 ⟨rfl, rfl⟩
  go_wp2_with fail
  refine (HY2.out _).mono ?_
  rintro e w1 ⟨rfl, rfl⟩
  have hq := HQ.out
  go_wp2_with fail
  refine (HY3.out _).mono ?_
  rintro e w1 ⟨rfl, rfl⟩
  go_wp2_with fail
  refine (awake9 _).mono ?_
  rintro e w1 ⟨rfl, hb⟩
  have HB := Lib.hid hb; clear hb
  go_wp2_with fail
  go_ret
  refine ⟨rfl, ?_⟩
  exact (show Below w.heap.size w (w.drewN _) from ((Keep.refl w Nope).drewN _).below).trans HB.out
end Go.Proofs.Ytcmbbkaioopkhaa
