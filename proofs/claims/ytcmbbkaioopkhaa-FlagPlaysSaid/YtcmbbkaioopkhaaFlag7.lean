/-
  Events compared; the package flag once more: as many readers as may be; awake.
-/
import Derived.Test.YtcmbbkaioopkhaaFlag6
namespace Go.Proofs.Ytcmbbkaioopkhaa
open Go Go.RowKit
set_option linter.unusedVariables false
set_option linter.unusedSimpArgs false

theorem neq_ev (w : World) (o : EvV) : (binOp .neq 34 o.val o.val).run Try.prog w = .ok (.bool false) w := by
  obtain ⟨kind, hi⟩ := o
  simp only [EvV.val, binOp, Op.equal, Op.maxDepth]
  rw [show (10000 : Nat) = 9998 + 2 from rfl]
  simp [go_sem, run_equalIn_struct]

set_option maxHeartbeats 1000000 in
theorem same_ev (v v2 : Value) (l : List EvV) (w : World) (S S2 : Nat → Prop) (h : Rd S w v l.length (flatEv l)) (h2 : Rd S2 w v2 l.length (flatEv l)) :
    Calls Try.prog 22 #[v, v2] w (Ret w (.bool true)) := by
  obtain ⟨a, c, rfl, g1, g2, g3, g4⟩ := id h
  have hlen : l.length ≤ 9223372036854775807 := by unfold maxLen at g2; omega
  clear g1 g2 g3 g4
  obtain ⟨a2, c2, rfl, g1, g2, g3, g4⟩ := id h2
  clear g1 g2 g3 g4
  have H := Lib.hid h; clear h
  have H2 := Lib.hid h2; clear h2
  go_enter Try.func22, Try.ntmps22
  go_wp2_with fail
  go_loopg [5] l.length (fun g v5 wr => ∃ k q : Nat, g + k = l.length ∧ v5 = .int .i64 k ∧ wr = w.drewN q)
  case atStart => exact ⟨0, 0, rfl, rfl, rfl⟩
  case round =>
    obtain ⟨k, q, hk, rfl, rfl⟩ := hrel
    have hkl : k ≤ l.length := by omega
    have HK := Lib.hid hk; clear hk
    by_cases hlt : k < l.length
    · obtain ⟨o, ho⟩ : ∃ o, l[k]? = some o := ⟨_, List.getElem?_eq_getElem hlt⟩
      obtain ⟨bo, oo, rfl, hbo, hco⟩ := H.out.elem (cells := EvV.cells) (size := 2) (fun _ => rfl) (by decide) ho
      obtain ⟨bo2, oo2, rfl, hbo2, hco2⟩ := H2.out.elem (cells := EvV.cells) (size := 2) (fun _ => rfl) (by decide) ho
      clear ho
      have hneq := fun w => neq_ev w o
      obtain ⟨kind, hi⟩ := o
      have hc0 := hco 0 (by decide)
      have hc1 := hco 1 (by decide)
      have hd0 := hco2 0 (by decide)
      have hd1 := hco2 1 (by decide)
      simp [EvV.cells] at hc0 hc1 hd0 hd1
      clear hco hco2
      simp only [EvV.val] at hneq
      go_wp2_with fail
      go_quiet (fail)
      go_wp2_with fail
      go_roundg (l.length - (k + 1))
      case measure => have := HK.out; omega
      case rel => exact ⟨k + 1, _, by omega, by go_num, rfl⟩
    · go_wp2_with fail
      go_ret
      exact ⟨rfl, (Keep.refl _ _).drewN q⟩

set_option maxHeartbeats 400000 in
theorem event_ok (o : EvV) (w : World) : Calls Try.prog 21 #[o.val] w (Ret w (.bool (!badEv o))) := by
  obtain ⟨kind, idx⟩ := o
  have hx : (!badEv ⟨kind, idx⟩) = (decide (1 ≤ kind) && (decide (kind ≤ 3) && decide (0 ≤ idx))) := by
    simp only [badEv]
    rw [Bool.eq_iff_iff]
    simp
  rw [hx]
  clear hx
  by_cases h1 : (1 : Int) ≤ kind
  · by_cases h2 : kind ≤ 3
    · by_cases h3 : (0 : Int) ≤ idx
      all_goals
        unfold EvV.val
        go_enter Try.func21, Try.ntmps21
        go_wp2_with fail
        go_ret
        exact ⟨by (simp [*] <;> omega), (Keep.refl _ _).alloc _⟩
    · unfold EvV.val
      go_enter Try.func21, Try.ntmps21
      go_wp2_with fail
      go_ret
      exact ⟨by (simp [*] <;> omega), (Keep.refl _ _).alloc _⟩
  · unfold EvV.val
    go_enter Try.func21, Try.ntmps21
    go_wp2_with fail
    go_ret
    exact ⟨by (simp [*] <;> omega), (Keep.refl _ _).alloc _⟩

set_option maxHeartbeats 400000 in
theorem flag_reader_many {w0 w : World} {L : List Asr} {b : Nat} {F : FlagV} (H : St w0 w L) (i : Nat) (hi : L[i]? = some (flagA b F)) (hp : F.pos.length = 100) :
    Calls Try.prog 16 #[.pointer (some ⟨b, 0, none⟩)] w (fun e w' => e = .returned (.tuple #[.int .i64 0, .int .i64 2]) ∧ w = w') := by
  obtain ⟨la, lc, ra, rc, h⟩ := H.flagSplit i hi
  unfold flagPs at h
  rw [hp] at h
  have c3 := (h.blk 0 rfl).cell 3
  simp at c3
  clear h H hi hp
  go_enter Try.func16, Try.ntmps16
  go_wp2_with fail
  go_ret2
  exact ⟨rfl, rfl⟩

set_option maxHeartbeats 400000 in
theorem flag_new_bad (n : Int) (h : n < 1 ∨ 1000 < n) (w : World) : Calls Try.prog 15 #[.int .i64 n] w (fun e w' => e = .returned (.tuple #[.pointer none, .int .i64 1]) ∧ w = w') := by
  by_cases h1 : n < 1
  · clear h
    go_enter Try.func15, Try.ntmps15
    go_wp2_with fail
    go_ret2
    exact ⟨rfl, rfl⟩
  · have h2 : 1000 < n := h.resolve_left h1
    have hd : decide (n < 1) = false := decide_eq_false h1
    clear h h1
    go_enter Try.func15, Try.ntmps15
    go_wp2_with fail
    go_ret2
    exact ⟨rfl, rfl⟩

set_option maxHeartbeats 2000000 in
theorem awake10 (w : World) : Calls Try.prog 20 #[] w (RetTrue w) := by
  have HS := Lib.hid (St.start w)
  go_enter Try.func20, Try.ntmps20
  go_wp2_with fail
  refine (flag_new HS.out 1 (by decide) (by decide)).mono ?_
  rintro e w1 ⟨b, rfl, hst⟩
  have H1 := Lib.hid (show St w w1 [flagA b ⟨1, [], []⟩] from hst); clear hst HS
  go_wp2_with fail
  refine (flag_reader H1.out 0 rfl (by decide)).mono ?_
  rintro e w2 ⟨rfl, hst⟩
  have H2 := Lib.hid (show St w w2 [flagA b ⟨1, [], [0]⟩] from hst); clear hst H1
  go_wp2_with fail
  have h3 := St.lit H2.out 34 2 2 #[.int .i64 1, .int .i64 3, .int .i64 3, .int .i64 3] (by decide) rfl
  have H3 := Lib.hid h3; clear h3
  refine (flag_note (L := [flagA b ⟨1, [], [0]⟩, slA 34 2 (.slice (some ⟨w2.heap.size, 0, none⟩) 2 2) 2 [.int .i64 1, .int .i64 3, .int .i64 3, .int .i64 3]]) H3.out 0 rfl _ [⟨1, 3⟩, ⟨3, 3⟩] (ReadIn.own 1 rfl) rfl (by decide) (by decide) (by decide) (by decide)).mono ?_
  rintro e w4 ⟨rfl, hst⟩
  have H4 := Lib.hid (show St w w4 [flagA b ⟨1, [⟨1, 3⟩, ⟨3, 3⟩], [0]⟩, slA 34 2 (.slice (some ⟨w2.heap.size, 0, none⟩) 2 2) 2 [.int .i64 1, .int .i64 3, .int .i64 3, .int .i64 3]] from hst); clear hst H3 H2
  go_wp2_with fail
  refine (flag_read_lag H4.out 0 rfl (by decide) (by decide) (by decide) 0 0 2 rfl rfl (by decide)).mono ?_
  rintro e w5 ⟨rfl, hst⟩
  have H5 := Lib.hid (show St w w5 [flagA b ⟨1, [⟨1, 3⟩, ⟨3, 3⟩], [2]⟩, slA 34 2 (.slice (some ⟨w2.heap.size, 0, none⟩) 2 2) 2 [.int .i64 1, .int .i64 3, .int .i64 3, .int .i64 3]] from hst); clear hst H4
  go_wp2_with fail
  refine (flag_read_yes H5.out 0 rfl (by decide) (by decide) (by decide) 0 2 0 rfl rfl (by decide)).mono ?_
  rintro e w6 ⟨a, n, c, rfl, rfl, hst⟩
  have H6 := Lib.hid hst.ret; clear hst H5
  go_wp2_with fail
  go_ret
  exact H6.out
theorem st_awake10 {w0 w : World} {L : List Asr} (H : St w0 w L) : Calls Try.prog 20 #[] w (RetTrue w0) := by
  refine (awake10 w).mono ?_
  rintro e w' ⟨rfl, hk⟩
  exact ⟨rfl, H.bel.trans (hk.mono H.le)⟩
end Go.Proofs.Ytcmbbkaioopkhaa
