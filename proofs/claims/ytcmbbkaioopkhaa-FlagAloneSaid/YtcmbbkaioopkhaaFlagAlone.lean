/-
  FlagAlone: one that reads often is told all, one that reads late lags, once.
-/
import Derived.Test.YtcmbbkaioopkhaaFlag8
namespace Go.Proofs.Ytcmbbkaioopkhaa
open Go Go.RowKit
set_option linter.unusedVariables false
set_option linter.unusedSimpArgs false

theorem and_modp (x : Int) (p : Nat) (m : Int) (hp : p ≤ 62) (hm : m = ((2 ^ p - 1 : Nat) : Int)) (n : Nat) (hn : 0 < n) : ∃ k : Nat, (bits .and .i64 x m).tmod (n : Int) = (k : Int) ∧ k < n := by
  rw [and_mask x p m hp hm]
  have hpos : 0 < (2 : Nat) ^ p := Nat.pow_pos (by decide)
  have h0 := Int.emod_nonneg x (show ((2 ^ p : Nat) : Int) ≠ 0 by omega)
  have h1 : (x % ((2 ^ p : Nat) : Int)).tmod (n : Int) = (x % ((2 ^ p : Nat) : Int)) % (n : Int) := Int.tmod_eq_emod_of_nonneg h0
  rw [h1]
  have h2 := Int.emod_nonneg (x % ((2 ^ p : Nat) : Int)) (show (n : Int) ≠ 0 by omega)
  have h3 := Int.emod_lt_of_pos (x % ((2 ^ p : Nat) : Int)) (show (0 : Int) < n by omega)
  exact ⟨((x % ((2 ^ p : Nat) : Int)) % (n : Int)).toNat, by omega, by omega⟩

def evs2 (n : Nat) : List EvV := (List.range n).map (fun i : Nat => ⟨2, (i : Int)⟩)
theorem evs2_len (n : Nat) : (evs2 n).length = n := by simp [evs2]
theorem evs2_succ (n : Nat) : evs2 (n + 1) = evs2 n ++ [⟨2, (n : Int)⟩] := by simp [evs2, List.range_succ]
theorem evs2_get (n T k : Nat) (h : T + k < n) : ((evs2 n).drop T)[k]? = some ⟨2, (T : Int) + k⟩ := by
  rw [List.getElem?_drop, evs2, List.getElem?_map, List.getElem?_range h]
  simp
def LoopFA (w : World) (b B : Nat) (l : List Int) (g : Nat) (v11 v12 : Value) (wr : World) : Prop :=
  ∃ i T : Nat, g + i = l.length ∧ i ≤ 30 ∧ T ≤ 20 * i ∧ v12 = .int .i64 i ∧ v11 = .int .i64 T ∧ St w wr [flagA b ⟨B, evs2 T, [T, 0]⟩]
def LoopFA1 (w : World) (b B T n : Nat) (g : Nat) (v11 v14 : Value) (wr : World) : Prop :=
  ∃ k : Nat, g + k = n ∧ v14 = .int .i64 k ∧ v11 = .int .i64 ((T : Int) + k) ∧ St w wr [flagA b ⟨B, evs2 (T + k), [T, 0]⟩]
def LoopFA2 (w5 : World) (n : Nat) (g : Nat) (v18 : Value) (wr : World) : Prop := ∃ k : Nat, g + k = n ∧ v18 = .int .i64 k ∧ w5 = wr

set_option maxRecDepth 100000 in
set_option maxHeartbeats 4000000 in
theorem flagAlone_walk (x : Int) (v : Value) (l : List Int) (w : World) (S : Nat → Prop) (hv : Rd S w v l.length (l.map (Value.int .i64))) (hS : ∀ i, S i → i < w.heap.size) :
    Calls Try.prog 4 #[.int .i64 x, v] w (RetTrue w) := by
  obtain ⟨q, hq, hq20⟩ : ∃ q : Nat, (bits .and .i64 x 255).tmod 20 = (q : Int) ∧ q < 20 := and_modp x 8 255 (by decide) rfl 20 (by decide)
  obtain ⟨B, hB⟩ : ∃ B, q + 1 = B := ⟨_, rfl⟩
  have hBi : (q : Int) + 1 = B := by omega
  have hB1 : 1 ≤ B := by omega
  have hB2 : B ≤ 20 := by omega
  have hB3 : (1 : Int) ≤ B := by omega
  have hB4 : (B : Int) ≤ 20 := by omega
  clear hB hq20
  obtain ⟨va, vc, rfl, g1, g2, g3, g4⟩ := id hv
  have hlen : l.length ≤ 9223372036854775807 := by unfold maxLen at g2; omega
  clear g1 g2 g3 g4
  have HV := Lib.hid hv; clear hv
  have HSB := Lib.hid hS; clear hS
  have HS := Lib.hid (St.start w)
  go_enter Try.func4, Try.ntmps4
  go_wp2_with fail
  refine (flag_new HS.out B hB1 (by omega)).mono ?_
  rintro e w1 ⟨b, rfl, hst⟩
  have H1 := Lib.hid (show St w w1 [flagA b ⟨B, [], []⟩] from hst); clear hst HS
  go_wp2_with fail
  refine (flag_reader H1.out 0 rfl (by simp)).mono ?_
  rintro e w2 ⟨rfl, hst⟩
  have H2 := Lib.hid (show St w w2 [flagA b ⟨B, [], [0]⟩] from hst); clear hst H1
  go_wp2_with fail
  refine (flag_reader H2.out 0 rfl (by simp)).mono ?_
  rintro e w3 ⟨rfl, hst⟩
  have H3 := Lib.hid (show St w w3 [flagA b ⟨B, evs2 0, [0, 0]⟩] from hst); clear hst H2
  go_wp2_with fail
  go_loopg [11, 12] l.length (fun g v11 v12 wr => LoopFA w b B l g v11 v12 wr)
  case atStart => exact ⟨0, 0, rfl, by omega, by omega, rfl, rfl, H3.out⟩
  case round =>
    obtain ⟨i, T, hi, hi30, hT, rfl, rfl, hst⟩ := hrel
    clear H3
    have H := Lib.hid hst; clear hst
    have hil : i ≤ l.length := by omega
    have HI := Lib.hid hi; clear hi
    have hT6 : T ≤ 600 := by omega
    by_cases hlt : i < l.length ∧ i < 30
    · obtain ⟨hlt, h30⟩ := hlt
      obtain ⟨li, hli⟩ : ∃ li, l[i]? = some li := ⟨_, List.getElem?_eq_getElem hlt⟩
      have hx := HV.out.below H.out.bel HSB.out
      obtain ⟨vb, vo, rfl, hvb, hvc⟩ := hx.at (by simp; omega)
      have hc := hvc i (by simpa using hlt)
      rw [List.getElem?_map, hli] at hc
      simp only [Option.map_some] at hc
      obtain ⟨n, hn, hnB⟩ := and_modp li 8 255 (by decide) rfl (B + 1) (by omega)
      have hn' : (bits .and .i64 li 255).tmod ((B : Int) + 1) = n := by rw [← hn]; rfl
      have hd30 : (i : Int) < 30 := by omega
      have hdl : decide ((i : Int) < 30) = true := decide_eq_true hd30
      have hn20 : n ≤ 20 := by omega
      have hnB' : n ≤ B := by omega
      have HHT := Lib.hid hT
      clear hx hvc hli hn hnB hT
      go_wp2_with fail
      have HV2 := Lib.hid HV.out; clear HV hc hn'
      go_loopg [11, 14] n (fun g v11 v14 wr => LoopFA1 w b B T n g v11 v14 wr)
      case atStart => exact ⟨0, by omega, rfl, by simp, H.out⟩
      case round =>
        obtain ⟨k, hk, rfl, rfl, hst⟩ := hrel
        have hkn : k ≤ n := by omega
        have HK := Lib.hid hk; clear hk
        by_cases hklt : k < n
        · have H4 := Lib.hid hst; clear hst
          go_wp2_with fail
          have h5 := St.lit H4.out 34 2 1 #[.int .i64 2, .int .i64 ((T : Int) + k)] (by decide) rfl
          refine (flag_note (L := [flagA b ⟨B, evs2 (T + k), [T, 0]⟩, slA 34 2 (.slice (some ⟨_, 0, none⟩) 1 1) 1 [.int .i64 2, .int .i64 ((T : Int) + k)]]) h5 0 rfl _ [⟨2, (T : Int) + k⟩] (ReadIn.own 1 rfl) (by simp [badEv]; omega) (by simp) (by simp [evs2_len]; omega) (by simpa using hB1) (by simp; omega)).mono ?_
          rintro e w4 ⟨rfl, hst⟩
          have hst2 := hst.take 1
          have e1 : evs2 (T + k) ++ [⟨2, (T : Int) + k⟩] = evs2 (T + (k + 1)) := by rw [← Nat.add_assoc, evs2_succ]; simp
          rw [e1] at hst2
          have H5 := Lib.hid (show St w w4 [flagA b ⟨B, evs2 (T + (k + 1)), [T, 0]⟩] from hst2); clear hst hst2 H4 h5 e1
          go_wp2_with fail
          go_roundg (n - (k + 1))
          case measure => have := HK.out; omega
          case rel => exact ⟨k + 1, by omega, by go_num, by go_num, H5.out⟩
        · obtain rfl : k = n := by omega
          clear HK hkn hklt H
          have H4 := Lib.hid hst; clear hst
          go_wp2_with fail
          obtain ⟨T2, hT2⟩ : ∃ T2, T + k = T2 := ⟨_, rfl⟩
          have hT2i : (T : Int) + (k : Int) = (T2 : Int) := by omega
          have hst := H4.out
          rw [hT2] at hst
          refine (flag_read_yes hst 0 rfl (by simp) (by simp [evs2_len]; omega) (by simp; omega) 0 T k rfl (by simp only [evs2_len]; exact hT2) (by simpa using hnB')).mono ?_
          rintro e w5 ⟨a5, n5, c5, rfl, e5, hst5⟩
          subst e5
          have e6 : FlagV.seen ⟨B, evs2 T2, [T, 0]⟩ 0 = ⟨B, evs2 T2, [T2, 0]⟩ := by simp [FlagV.seen, evs2_len]
          have H5 := Lib.hid (show St w w5 [flagA b ⟨B, evs2 T2, [T2, 0]⟩, slA 34 2 (.slice a5 n5 c5) n5 (flatEv ((evs2 T2).drop T))] by rw [← e6]; exact hst5)
          obtain ⟨SX, _, hrx, _⟩ := H5.out.rd 1 rfl
          have HX := Lib.hid hrx
          have hT2l : T2 ≤ 620 := by omega
          have HT2 := Lib.hid hT2
          have hsub : (T2 : Int) - (n5 : Int) = T := by omega
          have hdn : decide (n5 = n5) = true := by simp
          clear hst hst5 hrx e6 hT2 H4
          go_wp2_with fail
          go_loopg [18] n5 (fun g v18 wr => LoopFA2 w5 n5 g v18 wr)
          case atStart => exact ⟨0, by omega, rfl, rfl⟩
          case round =>
            obtain ⟨k2, hk2, rfl, rfl⟩ := hrel
            have hk2n : k2 ≤ n5 := by omega
            have HK2 := Lib.hid hk2; clear hk2
            by_cases hk2lt : k2 < n5
            · have hk2i : (k2 : Int) < n5 := by omega
              have hg := evs2_get T2 T k2 (by have := HT2.out; omega)
              obtain ⟨bo, oo, rfl, _, hco⟩ := HX.out.elem (cells := EvV.cells) (size := 2) (fun _ => rfl) (by decide) hg
              have hneq := fun w => neq_ev w ⟨2, (T : Int) + k2⟩
              have hc0 := hco 0 (by decide)
              have hc1 := hco 1 (by decide)
              simp [EvV.cells] at hc0 hc1
              simp only [EvV.val] at hneq
              clear hco hg
              go_wp2_with fail
              go_roundg (n5 - (k2 + 1))
              case measure => have := HK2.out; omega
              case rel => exact ⟨k2 + 1, by omega, by go_num, rfl⟩
            · obtain rfl : k2 = n5 := by omega
              clear HK2 hk2n hk2lt
              go_wp2_with fail
              go_roundg (l.length - (i + 1))
              case measure => have := HI.out; omega
              case rel => exact ⟨i + 1, T2, by omega, by omega, by have := HHT.out; have := HT2.out; omega, by go_num, rfl, H5.out.take 1⟩
    · have hst := H.out
      by_cases hlag : B < T
      · have hlag' : (B : Int) < T := by omega
        have hlagd : decide ((B : Int) < T) = true := decide_eq_true hlag'
        have H5 := Lib.hid (flag_read_lag H.out 0 rfl (by simp) (by simp [evs2_len]; omega) (by simp; omega) 1 0 T rfl (by simp [evs2_len]) (by simpa using hlag))
        have e6 : FlagV.seen ⟨B, evs2 T, [T, 0]⟩ 1 = ⟨B, evs2 T, [T, T]⟩ := by simp [FlagV.seen, evs2_len]
        rw [e6] at H5
        clear e6 hst H
        by_cases hl2 : i < l.length
        all_goals
          first
          | (have hx1 : ¬ (i : Int) < l.length := by omega)
          | (have hx1 : (i : Int) < l.length := by omega
             have hx2 : ¬ (i : Int) < 30 := by omega)
          clear hlt hl2
          go_wp2_with fail
          refine (H5.out).mono ?_
          rintro e w5 ⟨rfl, hst⟩
          have H6 := Lib.hid (show St w w5 [flagA b ⟨B, evs2 T, [T, T]⟩] from hst); clear hst
          go_wp2_with fail
          refine (flag_read_yes H6.out 0 rfl (by simp) (by simp [evs2_len]; omega) (by simp; omega) 1 T 0 rfl (by simp [evs2_len]) (by simp)).mono ?_
          rintro e w6 ⟨a6, n6, c6, rfl, rfl, hst⟩
          have e7 : FlagV.seen ⟨B, evs2 T, [T, T]⟩ 1 = ⟨B, evs2 T, [T, T]⟩ := by simp [FlagV.seen, evs2_len]
          have H7 := Lib.hid (show St w w6 [flagA b ⟨B, evs2 T, [T, T]⟩] by rw [← e7]; exact hst.take 1); clear hst H6 e7
          go_wp2_with fail
          refine (flag_behind_yes H7.out 0 rfl (by simp) (by simp [evs2_len]; omega) 1 T 0 rfl (by simp [evs2_len])).mono ?_
          rintro e w7 ⟨rfl, hk7⟩
          have H8 := Lib.hid (H7.out.keep hk7); clear hk7 H7
          go_wp2_with fail
          refine (st_awake10 H8.out).mono ?_
          rintro e w9 hret
          have HR := Lib.hid hret; clear hret
          obtain ⟨rfl, hbel⟩ := HR.out
          have HB := Lib.hid hbel; clear hbel HR
          go_wp2_with fail
          go_ret
          exact ⟨rfl, HB.out⟩
      · have hlag' : ¬ (B : Int) < T := by omega
        have hlagd : decide ((B : Int) < T) = false := decide_eq_false hlag'
        have H5 := Lib.hid (flag_read_yes H.out 0 rfl (by simp) (by simp [evs2_len]; omega) (by simp; omega) 1 0 T rfl (by simp [evs2_len]) (by simpa using hlag))
        have e6 : FlagV.seen ⟨B, evs2 T, [T, 0]⟩ 1 = ⟨B, evs2 T, [T, T]⟩ := by simp [FlagV.seen, evs2_len]
        rw [e6] at H5
        clear e6 hst H
        by_cases hl2 : i < l.length
        all_goals
          first
          | (have hx1 : ¬ (i : Int) < l.length := by omega)
          | (have hx1 : (i : Int) < l.length := by omega
             have hx2 : ¬ (i : Int) < 30 := by omega)
          clear hlt hl2
          go_wp2_with fail
          refine (H5.out).mono ?_
          rintro e w5 ⟨a5, n5, c5, rfl, e5, hst⟩
          subst e5
          have H6 := Lib.hid (show St w w5 [flagA b ⟨B, evs2 n5, [n5, n5]⟩] from hst.take 1); clear hst
          go_wp2_with fail
          refine (flag_read_yes H6.out 0 rfl (by simp) (by simp [evs2_len]; omega) (by simp; omega) 1 n5 0 rfl (by simp [evs2_len]) (by simp)).mono ?_
          rintro e w6 ⟨a6, n6, c6, rfl, rfl, hst⟩
          have e7 : FlagV.seen ⟨B, evs2 n5, [n5, n5]⟩ 1 = ⟨B, evs2 n5, [n5, n5]⟩ := by simp [FlagV.seen, evs2_len]
          have H7 := Lib.hid (show St w w6 [flagA b ⟨B, evs2 n5, [n5, n5]⟩] by rw [← e7]; exact hst.take 1); clear hst H6 e7
          go_wp2_with fail
          refine (flag_behind_yes H7.out 0 rfl (by simp) (by simp [evs2_len]; omega) 1 n5 0 rfl (by simp [evs2_len])).mono ?_
          rintro e w7 ⟨rfl, hk7⟩
          have H8 := Lib.hid (H7.out.keep hk7); clear hk7 H7
          go_wp2_with fail
          refine (st_awake10 H8.out).mono ?_
          rintro e w9 hret
          have HR := Lib.hid hret; clear hret
          obtain ⟨rfl, hbel⟩ := HR.out
          have HB := Lib.hid hbel; clear hbel HR
          go_wp2_with fail
          go_ret
          exact ⟨rfl, HB.out⟩
end Go.Proofs.Ytcmbbkaioopkhaa
