/-
  The package flag: how far a reader lags.
-/
import Derived.Test.YtcmbbkaioopkhaaFlag3
import Derived.StillTailTactics
namespace Go.Proofs.Ytcmbbkaioopkhaa
open Go Go.RowKit
set_option linter.unusedVariables false
set_option linter.unusedSimpArgs false

theorem i64s_get (l : List Nat) (k p : Nat) (h : l[k]? = some p) : (i64s l)[k]? = some (.int .i64 (p : Int)) := by simp [i64s, h]

set_option maxHeartbeats 1000000 in
theorem flag_behind_yes {w0 w : World} {L : List Asr} {b : Nat} {F : FlagV} (H : St w0 w L) (i : Nat) (hi : L[i]? = some (flagA b F)) (hp : F.pos.length ≤ 100) (hall : F.all.length ≤ 1000000) (k p d : Nat) (hk : F.pos[k]? = some p) (hd : p + d = F.all.length) :
    Calls Try.prog 19 #[.pointer (some ⟨b, 0, none⟩), .int .i64 k] w (Ret w (.tuple #[.int .i64 d, .int .i64 0])) := by
  obtain ⟨la, lc, ra, rc, h⟩ := H.flagSplit i hi
  have hkl := (List.getElem?_eq_some_iff.1 hk).1
  have hx := i64s_get _ _ _ hk
  obtain ⟨n, hn⟩ : ∃ n, F.pos.length = n := ⟨_, rfl⟩
  obtain ⟨m, hm⟩ : ∃ m, F.all.length = m := ⟨_, rfl⟩
  unfold flagPs at h
  rw [hn, hm] at h
  rw [hn] at hp hkl
  rw [hm] at hall hd
  have c3 := (h.blk 0 rfl).cell 3
  have c1 := (h.blk 0 rfl).cell 1
  simp at c3 c1
  obtain ⟨g, rfl, _, _, hc, _⟩ := h.store 2 rfl (by omega)
  have ck : w.cell? ⟨g, k, none⟩ = some (.int .i64 (p : Int)) := by rw [hc k (by omega)]; exact hx
  have b1 : (k : Int) < n := by omega
  have b2 : (0 : Int) ≤ k := by omega
  have hcap : n ≤ rc ∧ rc ≤ maxLen := by obtain ⟨_, ho, _⟩ := (h.rd 2 rfl); exact ho.cap
  unfold maxLen at hcap
  have b3 : (m : Int) - p ≤ 1000000 := by omega
  have b4 : 0 ≤ (m : Int) - p := by omega
  have HD := Lib.hid (show (m : Int) - p = d by omega)
  clear h H hi hk hx hn hm hc hd
  go_enter Try.func19, Try.ntmps19
  go_wp2_with fail
  go_quiet (fail)
  go_wp2_with fail
  go_ret2
  rw [← HD.out]
  exact ⟨rfl, (Keep.refl _ _).drewN _⟩

set_option maxHeartbeats 1000000 in
theorem flag_behind_no {w0 w : World} {L : List Asr} {b : Nat} {F : FlagV} (H : St w0 w L) (i : Nat) (hi : L[i]? = some (flagA b F)) (hp : F.pos.length ≤ 100) (k : Int) (hk : k < 0 ∨ F.pos.length ≤ k) :
    Calls Try.prog 19 #[.pointer (some ⟨b, 0, none⟩), .int .i64 k] w (Ret w (.tuple #[.int .i64 0, .int .i64 8])) := by
  obtain ⟨la, lc, ra, rc, h⟩ := H.flagSplit i hi
  obtain ⟨n, hn⟩ : ∃ n, F.pos.length = n := ⟨_, rfl⟩
  unfold flagPs at h
  rw [hn] at h
  rw [hn] at hp hk
  have c3 := (h.blk 0 rfl).cell 3
  simp at c3
  by_cases h0 : k < 0
  · clear h H hi hn hk
    go_enter Try.func19, Try.ntmps19
    go_wp2_with fail
    go_ret2
    exact ⟨rfl, Keep.refl _ _⟩
  · have h1 : (n : Int) ≤ k := by omega
    have hd0 : decide (k < 0) = false := decide_eq_false h0
    clear h H hi hn hk h0
    go_enter Try.func19, Try.ntmps19
    go_wp2_with fail
    go_ret2
    exact ⟨rfl, Keep.refl _ _⟩
end Go.Proofs.Ytcmbbkaioopkhaa
