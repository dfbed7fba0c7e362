/-
  FlagBounds: as many readers may be as the bound says; just as many events as the bound are told.
-/
import Derived.Test.YtcmbbkaioopkhaaFlag8
namespace Go.Proofs.Ytcmbbkaioopkhaa
open Go Go.RowKit
set_option linter.unusedVariables false
set_option linter.unusedSimpArgs false

def evs (n : Nat) : List EvV := (List.range n).map (fun i : Nat => ⟨1, (i : Int)⟩)
theorem evs_len (n : Nat) : (evs n).length = n := by simp [evs]
theorem evs_succ (n : Nat) : evs (n + 1) = evs n ++ [⟨1, (n : Int)⟩] := by simp [evs, List.range_succ]
def LoopFB1 (w : World) (b N : Nat) (g : Nat) (v7 : Value) (wr : World) : Prop :=
  ∃ i : Nat, g + i = N ∧ v7 = .int .i64 i ∧ St w wr [flagA b ⟨10, [], List.replicate (min i 100) 0⟩]
def LoopFB2 (w : World) (b T : Nat) (P : List Nat) (g : Nat) (v10 : Value) (wr : World) : Prop :=
  ∃ j : Nat, g + j = T ∧ v10 = .int .i64 j ∧ St w wr [flagA b ⟨10, evs j, P⟩]

set_option maxRecDepth 100000 in
set_option maxHeartbeats 4000000 in
theorem flagBounds_walk (x y : Int) (w : World) :
    Calls Try.prog 7 #[.int .i64 x, .int .i64 y] w (RetTrue w) := by
  obtain ⟨K, hK, hK8⟩ : ∃ K : Nat, bits .and .i64 x 7 = (K : Int) ∧ K < 8 := by
    rw [and_mask x 3 7 (by omega) rfl]
    exact ⟨(x % 8).toNat, by omega, by omega⟩
  obtain ⟨q, hq, hq4⟩ : ∃ q : Nat, bits .and .i64 y 3 = (q : Int) ∧ q < 4 := by
    rw [and_mask y 2 3 (by omega) rfl]
    exact ⟨(y % 4).toNat, by omega, by omega⟩
  obtain ⟨N, hN⟩ : ∃ N, N = K + 97 := ⟨_, rfl⟩
  have hNi : (K : Int) + 97 = (N : Int) := by omega
  have hN2 : N ≤ 104 := by omega
  have hN3 : (N : Int) ≤ 104 := by omega
  have hN4 : (97 : Int) ≤ N := by omega
  have hN5 : 97 ≤ N := by omega
  clear hN hK8
  obtain ⟨T, hT⟩ : ∃ T, T = 8 + q := ⟨_, rfl⟩
  have hTi : (8 : Int) + (q : Int) = (T : Int) := by omega
  have hT1 : (T : Int) ≤ 11 := by omega
  have hT3 : T ≤ 11 := by omega
  have hT2 : (8 : Int) ≤ T := by omega
  clear hT hq4
  have HS := Lib.hid (St.start w)
  go_enter Try.func7, Try.ntmps7
  go_wp2_with fail
  refine (flag_new HS.out 10 (by decide) (by decide)).mono ?_
  rintro e w1 ⟨b, rfl, hst⟩
  have H1 := Lib.hid (show St w w1 [flagA b ⟨10, [], []⟩] from hst); clear hst HS
  go_wp2_with fail
  go_loopg [7] N (fun g v7 wr => LoopFB1 w b N g v7 wr)
  case atStart => exact ⟨0, rfl, rfl, H1.out⟩
  case round =>
    obtain ⟨i, hi, rfl, hst⟩ := hrel
    clear H1
    have hiN : i ≤ N := by omega
    have HI := Lib.hid hi; clear hi
    by_cases hlt : i < N
    · by_cases h100 : i < 100
      · rw [Nat.min_eq_left (by omega)] at hst
        have hC := flag_reader hst 0 rfl (by simpa using h100)
        simp only [List.length_replicate, List.length_nil] at hC
        have HC := Lib.hid hC; clear hC hst
        have hd : decide ((i : Int) < 100) = true := decide_eq_true (by omega)
        go_wp2_with fail
        refine (HC.out).mono ?_
        rintro e w2 ⟨rfl, hst⟩
        have HS2 := Lib.hid (show St w w2 [flagA b ⟨10, [], List.replicate (min (i + 1) 100) 0⟩] by
          rw [Nat.min_eq_left (by omega), List.replicate_succ']
          exact hst)
        clear hst
        go_wp2_with fail
        go_roundg (N - (i + 1))
        case measure => have := HI.out; omega
        case rel => exact ⟨i + 1, by omega, by go_num, HS2.out⟩
      · rw [Nat.min_eq_right (by omega)] at hst
        have hC := flag_reader_many hst 0 rfl (by simp)
        have HC := Lib.hid hC; clear hC
        have hd : decide ((i : Int) < 100) = false := decide_eq_false (by omega)
        have HS2 := Lib.hid (show St w wr [flagA b ⟨10, [], List.replicate (min (i + 1) 100) 0⟩] by
          rw [Nat.min_eq_right (by omega)]
          exact hst)
        clear hst
        go_wp2_with fail
        refine (HC.out).mono ?_
        rintro e w2 ⟨rfl, rfl⟩
        go_wp2_with fail
        go_roundg (N - (i + 1))
        case measure => have := HI.out; omega
        case rel => exact ⟨i + 1, by omega, by go_num, HS2.out⟩
    · obtain rfl : i = N := by omega
      clear HI hiN hlt
      obtain ⟨M, hM⟩ : ∃ M, min i 100 = M := ⟨_, rfl⟩
      rw [hM] at hst
      have HM := Lib.hid hM; clear hM
      have H1 := Lib.hid hst; clear hst
      go_wp2_with fail
      go_loopg [10] T (fun g v10 wr => LoopFB2 w b T (List.replicate M 0) g v10 wr)
      case atStart => exact ⟨0, rfl, rfl, H1.out⟩
      case round =>
        obtain ⟨j, hj, rfl, hst⟩ := hrel
        clear H1
        have hjT : j ≤ T := by omega
        have HJ := Lib.hid hj; clear hj
        by_cases hlt : j < T
        · have H2 := Lib.hid hst; clear hst
          go_wp2_with fail
          have h3 := St.lit H2.out 34 2 1 #[.int .i64 1, .int .i64 (j : Int)] (by decide) rfl
          refine (flag_note (L := [flagA b ⟨10, evs j, List.replicate M 0⟩, slA 34 2 (.slice (some ⟨_, 0, none⟩) 1 1) 1 [.int .i64 1, .int .i64 (j : Int)]]) h3 0 rfl _ [⟨1, (j : Int)⟩] (ReadIn.own 1 rfl) (by simp [badEv]) (by simp) (by simp [evs_len]; omega) (by simp) (by simp)).mono ?_
          rintro e w4 ⟨rfl, hst⟩
          have hst2 := hst.take 1
          rw [← evs_succ] at hst2
          have H4 := Lib.hid (show St w w4 [flagA b ⟨10, evs (j + 1), List.replicate M 0⟩] from hst2); clear hst hst2 H2
          go_wp2_with fail
          go_roundg (T - (j + 1))
          case measure => have := HJ.out; omega
          case rel => exact ⟨j + 1, by omega, by go_num, H4.out⟩
        · obtain rfl : j = T := by omega
          clear HJ hjT hlt
          have H2 := Lib.hid hst; clear hst
          have hM := HM.out
          by_cases h100 : 100 < i
          all_goals
            obtain ⟨hM1, hM2⟩ : 97 ≤ M ∧ M ≤ 100 := by omega
            first
            | have HMX := Lib.hid (show M = 100 by omega)
            | have HMX := Lib.hid (show M = i by omega)
            first
            | have h100' : (100 : Int) < i := by omega
            | have h100' : ¬ (100 : Int) < i := by omega
            clear hM HM
            by_cases hlag : 10 < j
            · have hlag' : (10 : Int) < j := by omega
              have hlagd : decide ((10 : Int) < j) = true := decide_eq_true hlag'
              go_wp2_with fail
              refine (flag_read_lag H2.out 0 rfl (by simp; try omega) (by simp [evs_len]; try omega) (by simp) 0 0 j (by rw [List.getElem?_replicate, if_pos (by omega)]) (by simp [evs_len]) (by simpa using hlag)).mono ?_
              rintro e w5 ⟨rfl, hst⟩
              have H5 := Lib.hid (show St w w5 [flagA b (FlagV.seen ⟨10, evs j, List.replicate M 0⟩ 0)] from hst); clear hst H2
              have hP : (FlagV.seen ⟨10, evs j, List.replicate M 0⟩ 0).pos.length = M := by simp [FlagV.seen]
              obtain ⟨F5, hF5⟩ : ∃ F5, F5 = FlagV.seen ⟨10, evs j, List.replicate M 0⟩ 0 := ⟨_, rfl⟩
              rw [← hF5] at H5 hP
              clear hF5
              have HP := Lib.hid hP; clear hP
              go_wp2_with fail
              refine (flag_read_no H5.out 0 rfl (by rw [HP.out]; omega) ((i : Int) + 5) (.inr (by rw [HP.out]; omega))).mono ?_
              rintro e w6 ⟨rfl, hk6⟩
              have H6 := Lib.hid (H5.out.keep hk6); clear hk6 H5
              go_wp2_with fail
              refine (flag_read_no H6.out 0 rfl (by rw [HP.out]; omega) (-1) (.inl (by decide))).mono ?_
              rintro e w7 ⟨rfl, hk7⟩
              have H7 := Lib.hid (H6.out.keep hk7); clear hk7 H6
              go_wp2_with fail
              have hC := flag_readers H7.out 0 rfl (by rw [HP.out]; omega)
              rw [HP.out, HMX.out] at hC
              refine hC.mono ?_
              rintro e w8 ⟨rfl, rfl⟩
              clear hC
              go_wp2_with fail
              refine (st_awake10 H7.out).mono ?_
              rintro e w9 hret
              have HR := Lib.hid hret; clear hret
              obtain ⟨rfl, hbel⟩ := HR.out
              have HB := Lib.hid hbel; clear hbel HR
              go_wp2_with fail
              go_ret
              exact ⟨rfl, HB.out⟩
            · have hlag' : ¬ (10 : Int) < j := by omega
              have hlagd : decide ((10 : Int) < j) = false := decide_eq_false hlag'
              go_wp2_with fail
              refine (flag_read_yes H2.out 0 rfl (by simp; try omega) (by simp [evs_len]; try omega) (by simp) 0 0 j (by rw [List.getElem?_replicate, if_pos (by omega)]) (by simp [evs_len]) (by simpa using hlag)).mono ?_
              rintro e w5 ⟨a5, n5, c5, rfl, hn5, hst⟩
              subst hn5
              have hst2 := hst.take 1
              have H5 := Lib.hid (show St w w5 [flagA b (FlagV.seen ⟨10, evs n5, List.replicate M 0⟩ 0)] from hst2); clear hst hst2 H2
              have hP : (FlagV.seen ⟨10, evs n5, List.replicate M 0⟩ 0).pos.length = M := by simp [FlagV.seen]
              obtain ⟨F5, hF5⟩ : ∃ F5, F5 = FlagV.seen ⟨10, evs n5, List.replicate M 0⟩ 0 := ⟨_, rfl⟩
              rw [← hF5] at H5 hP
              clear hF5
              have HP := Lib.hid hP; clear hP
              go_wp2_with fail
              refine (flag_read_no H5.out 0 rfl (by rw [HP.out]; omega) ((i : Int) + 5) (.inr (by rw [HP.out]; omega))).mono ?_
              rintro e w6 ⟨rfl, hk6⟩
              have H6 := Lib.hid (H5.out.keep hk6); clear hk6 H5
              go_wp2_with fail
              refine (flag_read_no H6.out 0 rfl (by rw [HP.out]; omega) (-1) (.inl (by decide))).mono ?_
              rintro e w7 ⟨rfl, hk7⟩
              have H7 := Lib.hid (H6.out.keep hk7); clear hk7 H6
              go_wp2_with fail
              have hC := flag_readers H7.out 0 rfl (by rw [HP.out]; omega)
              rw [HP.out, HMX.out] at hC
              refine hC.mono ?_
              rintro e w8 ⟨rfl, rfl⟩
              clear hC
              go_wp2_with fail
              refine (st_awake10 H7.out).mono ?_
              rintro e w9 hret
              have HR := Lib.hid hret; clear hret
              obtain ⟨rfl, hbel⟩ := HR.out
              have HB := Lib.hid hbel; clear hbel HR
              go_wp2_with fail
              go_ret
              exact ⟨rfl, HB.out⟩
end Go.Proofs.Ytcmbbkaioopkhaa
