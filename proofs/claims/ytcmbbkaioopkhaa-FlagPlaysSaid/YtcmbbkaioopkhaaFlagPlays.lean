/-
  FlagPlays: events are noted, and each reader told what it has not read, or that it lagged, as the document says.
-/
import Derived.Test.YtcmbbkaioopkhaaFlagPl4
namespace Go.Proofs.Ytcmbbkaioopkhaa
open Go Go.RowKit
set_option linter.unusedVariables false
set_option linter.unusedSimpArgs false

set_option maxRecDepth 1000000 in
set_option maxHeartbeats 4000000 in
theorem flagPlays_walk (x : Int) (v : Value) (l : List FOp) (w : World) (S : Nat → Prop) (hv : Rd S w v l.length (l.flatMap FOp.cells)) (hS : ∀ i, S i → i < w.heap.size)
    (hA : ∀ o ∈ l, (∃ a n c, o.v = .slice a n c) ∧ Rd S w o.v o.evs.length (flatEv o.evs)) :
    Calls Try.prog 6 #[.int .i64 x, v] w (RetTrue w) := by
  obtain ⟨q, hq, hq20⟩ : ∃ q : Nat, (bits .and .i64 x 255).tmod 20 = (q : Int) ∧ q < 20 := and_modq x 8 255 (by decide) rfl 20 (by decide)
  obtain ⟨B, hB⟩ : ∃ B, q + 1 = B := ⟨_, rfl⟩
  have hBi : (q : Int) + 1 = B := by omega
  have hB1 : 1 ≤ B := by omega
  have hB2 : B ≤ 20 := by omega
  have hB3 : (1 : Int) ≤ B := by omega
  have hB4 : (B : Int) ≤ 20 := by omega
  clear hB hq20
  obtain ⟨va, vc, rfl, g1, g2, g3, g4⟩ := id hv
  have hlen : l.length ≤ 9223372036854775807 := by unfold maxLen at g2; omega
  clear g1 g2 g3 g4
  have HV := Lib.hid hv; clear hv
  have HA := Lib.hid hA; clear hA
  have HSB := Lib.hid hS; clear hS
  by_cases hx1 : 1 ≤ x
  · by_cases hx2 : x ≤ 1000
    · have hd1 : decide ((1 : Int) ≤ x) = true := decide_eq_true hx1
      have hd2 : decide (x ≤ (1000 : Int)) = true := decide_eq_true hx2
      obtain ⟨k, hk⟩ : ∃ k : Nat, x = k := ⟨x.toNat, by omega⟩
      have HX := Lib.hid hk; clear hk
      have HC := Lib.hid (show Calls Try.prog 15 #[.int .i64 x] w (fun e w' => ∃ b, e = .returned (.tuple #[.pointer (some ⟨b, 0, none⟩), .int .i64 0]) ∧ Below w.heap.size w w') by
        have h1 := hx1
        have h2 := hx2
        rw [HX.out] at h1 h2 ⊢
        refine (flag_new (St.start w) k (by omega) (by omega)).mono ?_
        rintro e w' ⟨b, rfl, hst⟩
        exact ⟨_, rfl, hst.bel⟩)
      go_enter Try.func6, Try.ntmps6
      go_wp2_with fail
      refine (HC.out).mono ?_
      rintro e w1 ⟨b1, rfl, hb1⟩
      have HB1 := Lib.hid hb1; clear hb1
      go_wp2_with fail
      have HS := Lib.hid (show St w _ [] from ⟨HB1.out, ⟨fun _ _ => False, fun _ _ hi => by simp at hi, fun _ _ f => f.elim, fun _ _ _ f => f.elim⟩⟩)
      clear HB1
      refine (flag_new HS.out B hB1 (by omega)).mono ?_
      rintro e w2 ⟨bf, rfl, hst⟩
      have H2 := Lib.hid (show St w w2 [flagA bf ⟨B, [], []⟩] from hst); clear hst HS
      go_wp2_with fail
      refine (awake10 _).mono ?_
      rintro e w3 ⟨rfl, hk3⟩
      have H3 := Lib.hid (H2.out.keep (show Keep w2 w3 Nope from ⟨hk3.os, hk3.tape, hk3.output, hk3.size, fun k hk _ => hk3.block k hk⟩)); clear hk3 H2
      obtain ⟨bw, hbw⟩ : ∃ bw, w3.heap.size = bw := ⟨_, rfl⟩
      have HBW := Lib.hid hbw
      go_upto_block 0 with (fail)
      have H4 := Lib.hid (show St w (w3.alloc (.cells #[.int .i64 B, .slice none 0 0, .slice none 0 0] 47)) [flagA bf ⟨B, [], []⟩, rflagA bw ⟨B, [], []⟩] from hbw ▸ rflag_box H3.out B)
      clear H3 hbw
      change Code.wp Try.prog fpBlk0 _ _ _
      refine fp_loop _ HV HSB HA hlen H4 hB1 hB2 (Lib.hid ?_) (Lib.hid (fun _ _ _ h => (by cases h.2.1))) (Lib.hid ?_)
      · intros
        rename_i w9 hb9
        have HB9 := Lib.hid hb9; clear hb9
        go_wp2_with fail
        go_ret
        exact ⟨rfl, HB9.out⟩
      · intros
        rename_i w9 hb9
        have HB9 := Lib.hid hb9; clear hb9
        go_ret
        exact ⟨rfl, HB9.out⟩
    · have hd1 : decide ((1 : Int) ≤ x) = true := decide_eq_true hx1
      have hd2 : decide (x ≤ (1000 : Int)) = false := decide_eq_false hx2
      go_enter Try.func6, Try.ntmps6
      go_wp2_with fail
      refine (flag_new_bad x (.inr (by omega)) _).mono ?_
      rintro e w1 ⟨rfl, rfl⟩
      have HB1 := Lib.hid (Below.refl w.heap.size w)
      go_wp2_with fail
      have HS := Lib.hid (show St w _ [] from ⟨HB1.out, ⟨fun _ _ => False, fun _ _ hi => by simp at hi, fun _ _ f => f.elim, fun _ _ _ f => f.elim⟩⟩)
      clear HB1
      refine (flag_new HS.out B hB1 (by omega)).mono ?_
      rintro e w2 ⟨bf, rfl, hst⟩
      have H2 := Lib.hid (show St w w2 [flagA bf ⟨B, [], []⟩] from hst); clear hst HS
      go_wp2_with fail
      refine (awake10 _).mono ?_
      rintro e w3 ⟨rfl, hk3⟩
      have H3 := Lib.hid (H2.out.keep (show Keep w2 w3 Nope from ⟨hk3.os, hk3.tape, hk3.output, hk3.size, fun k hk _ => hk3.block k hk⟩)); clear hk3 H2
      obtain ⟨bw, hbw⟩ : ∃ bw, w3.heap.size = bw := ⟨_, rfl⟩
      have HBW := Lib.hid hbw
      go_upto_block 0 with (fail)
      have H4 := Lib.hid (show St w (w3.alloc (.cells #[.int .i64 B, .slice none 0 0, .slice none 0 0] 47)) [flagA bf ⟨B, [], []⟩, rflagA bw ⟨B, [], []⟩] from hbw ▸ rflag_box H3.out B)
      clear H3 hbw
      change Code.wp Try.prog fpBlk0 _ _ _
      refine fp_loop _ HV HSB HA hlen H4 hB1 hB2 (Lib.hid ?_) (Lib.hid (fun _ _ _ h => (by cases h.2.1))) (Lib.hid ?_)
      · intros
        rename_i w9 hb9
        have HB9 := Lib.hid hb9; clear hb9
        go_wp2_with fail
        go_ret
        exact ⟨rfl, HB9.out⟩
      · intros
        rename_i w9 hb9
        have HB9 := Lib.hid hb9; clear hb9
        go_ret
        exact ⟨rfl, HB9.out⟩
  · have hd1 : decide ((1 : Int) ≤ x) = false := decide_eq_false hx1
    go_enter Try.func6, Try.ntmps6
    go_wp2_with fail
    refine (flag_new_bad x (.inl (by omega)) _).mono ?_
    rintro e w1 ⟨rfl, rfl⟩
    have HB1 := Lib.hid (Below.refl w.heap.size w)
    go_wp2_with fail
    have HS := Lib.hid (show St w _ [] from ⟨HB1.out, ⟨fun _ _ => False, fun _ _ hi => by simp at hi, fun _ _ f => f.elim, fun _ _ _ f => f.elim⟩⟩)
    clear HB1
    refine (flag_new HS.out B hB1 (by omega)).mono ?_
    rintro e w2 ⟨bf, rfl, hst⟩
    have H2 := Lib.hid (show St w w2 [flagA bf ⟨B, [], []⟩] from hst); clear hst HS
    go_wp2_with fail
    refine (awake10 _).mono ?_
    rintro e w3 ⟨rfl, hk3⟩
    have H3 := Lib.hid (H2.out.keep (show Keep w2 w3 Nope from ⟨hk3.os, hk3.tape, hk3.output, hk3.size, fun k hk _ => hk3.block k hk⟩)); clear hk3 H2
    obtain ⟨bw, hbw⟩ : ∃ bw, w3.heap.size = bw := ⟨_, rfl⟩
    have HBW := Lib.hid hbw
    go_upto_block 0 with (fail)
    have H4 := Lib.hid (show St w (w3.alloc (.cells #[.int .i64 B, .slice none 0 0, .slice none 0 0] 47)) [flagA bf ⟨B, [], []⟩, rflagA bw ⟨B, [], []⟩] from hbw ▸ rflag_box H3.out B)
    clear H3 hbw
    change Code.wp Try.prog fpBlk0 _ _ _
    refine fp_loop _ HV HSB HA hlen H4 hB1 hB2 (Lib.hid ?_) (Lib.hid (fun _ _ _ h => (by cases h.2.1))) (Lib.hid ?_)
    · intros
      rename_i w9 hb9
      have HB9 := Lib.hid hb9; clear hb9
      go_wp2_with fail
      go_ret
      exact ⟨rfl, HB9.out⟩
    · intros
      rename_i w9 hb9
      have HB9 := Lib.hid hb9; clear hb9
      go_ret
      exact ⟨rfl, HB9.out⟩
end Go.Proofs.Ytcmbbkaioopkhaa
