/-
  The package scan: word, least, next. (Printed by tools/gen_scan.py.).
-/
import Derived.Test.YtkiikblpgppmkaaGreatDoorTlM35
namespace Go.Proofs.YtkiikblpgppmkaaGreatDoor
open Go Go.RowKit
set_option linter.unusedVariables false
set_option linter.unusedSimpArgs false

/-- A walk over the arena: its room, its needs, itself. -/
def wkA (wk ar ng nc rg : Nat) : Asr := blkA wk #[.pointer (some ⟨ar, 0, none⟩), .slice (some ⟨ng, 0, none⟩) 5 nc, .slice (some ⟨rg, 0, none⟩) 5 5] 329
structure ScB where
  wk : Nat
  ng : Nat
  nc : Nat
  rg : Nat
def ScSt (w0 w : World) (ar : Nat) (b : ScB) (L : List Asr) : Prop := ∃ r0 r1 r2 r3 r4 : Int, St w0 w (roomA b.rg r0 r1 r2 r3 r4 :: needA b.ng b.nc :: wkA b.wk ar b.ng b.nc b.rg :: L)
theorem ScSt.drew {w0 w : World} {ar : Nat} {b : ScB} {L : List Asr} (h : ScSt w0 w ar b L) : ScSt w0 w.drew ar b L := by
  obtain ⟨r0, r1, r2, r3, r4, h⟩ := h
  exact ⟨r0, r1, r2, r3, r4, h.drew⟩
theorem ScSt.tab {w0 w : World} {ar : Nat} {b : ScB} {L : List Asr} (h : ScSt w0 w ar b L) (hT : Tab w0) : Tab w := by
  obtain ⟨r0, r1, r2, r3, r4, h⟩ := h
  exact hT.st h
theorem ScSt.cells {w0 w : World} {ar : Nat} {b : ScB} {L : List Asr} (h : ScSt w0 w ar b L) : w.cell? ⟨b.wk, 0, none⟩ = some (.pointer (some ⟨ar, 0, none⟩)) ∧ w.cell? ⟨b.wk, 1, none⟩ = some (.slice (some ⟨b.ng, 0, none⟩) 5 b.nc) ∧ w.cell? ⟨b.wk, 2, none⟩ = some (.slice (some ⟨b.rg, 0, none⟩) 5 5) := by
  obtain ⟨r0, r1, r2, r3, r4, h⟩ := h
  have hb := h.blk 2 rfl
  exact ⟨by rw [hb.cell]; rfl, by rw [hb.cell]; rfl, by rw [hb.cell]; rfl⟩
def wAt (m0 m1 l : Nat) : Nat := wordAt m0 l &&& wordAt m1 l
theorem ar_words' {w0 w : World} {L : List Asr} {ar : Nat} {b : ScB} {p : ArP} {m0 m1 : Nat} (H : ScSt w0 w ar b L) (hA : ArR w0 ar p m0 m1) (l : Nat) (hl : l < 4) :
    Calls Tryz.prog 213 #[ptr ar, .slice (some ⟨b.ng, 0, none⟩) 5 b.nc, .int .i64 (l : Nat), .int .i64 0, .slice (some ⟨b.rg, 0, none⟩) 5 5] w (fun e w' => e = .returned (.int .u64 (wAt m0 m1 l : Nat)) ∧ ScSt w0 w' ar b L) := by
  obtain ⟨r0, r1, r2, r3, r4, h⟩ := H
  refine (ar_words h hA l hl).mono ?_
  rintro e w' ⟨rfl, a, b, c, d, e, h⟩
  exact ⟨rfl, a, b, c, d, e, h⟩
set_option maxHeartbeats 1000000 in
theorem sc_word_0 {w0 w : World} {L : List Asr} {ar : Nat} {b : ScB} {p : ArP} {m0 m1 : Nat} (H : ScSt w0 w ar b L) (hA : ArR w0 ar p m0 m1) :
    Calls Tryz.prog 140 #[ptr b.wk, .int .i64 0, .int .i64 0] w (fun e w' => e = .returned (.int .u64 (wAt m0 m1 0 : Nat)) ∧ ScSt w0 w' ar b L) := by
  have HW := Lib.hid (ar_words' H.drew hA 0 (by decide))
  obtain ⟨c0, c1, c2⟩ := H.cells
  clear H hA
  unfold ptr at *
  go_enter Tryz.func140, Tryz.ntmps140
  go_wp2_with fail
  refine wp_region_M (r := 14) (S := fun w' => w'.cell? ⟨b.wk, 0, none⟩ = some (.pointer (some ⟨ar, 0, none⟩)) ∧ w'.cell? ⟨b.wk, 1, none⟩ = some (.slice (some ⟨b.ng, 0, none⟩) 5 b.nc) ∧ w'.cell? ⟨b.wk, 2, none⟩ = some (.slice (some ⟨b.rg, 0, none⟩) 5 5)) (by kernel_rfl) ?_ (fun hHeld => ?_)
  · (try dsimp only); exact ⟨c0, c1, c2⟩
  refine tkP 0 ?_; refine tkP 1 ?_; refine tkP 2 ?_; refine tkH 3 ?_; refine tkP 4 ?_; refine tkP 5 ?_; refine tkP 6 ?_; refine tkH 7 ?_; refine tkP 8 ?_; refine tkP 9 ?_; refine tkP 10 ?_; refine tkP 11 ?_; refine tkP 12 ?_; refine tkH 13 ?_; refine tkF 14 ?_
  intro K hK
  go_simp
  go_wp2_with ((go_at_call 213; refine HW.out.mono ?_; rintro e w1 ⟨rfl, h⟩; have H1 := Lib.hid h; clear h))
  refine hK.out _ _ ?_
  clear hK K
  refine tkP 15 ?_
  refine wpAnyM_done (by kernel_rfl) ?_ _
  clear hHeld
  go_wp2_with fail
  go_ret
  exact ⟨rfl, H1.out⟩
set_option maxHeartbeats 1000000 in
theorem sc_word_1 {w0 w : World} {L : List Asr} {ar : Nat} {b : ScB} {p : ArP} {m0 m1 : Nat} (H : ScSt w0 w ar b L) (hA : ArR w0 ar p m0 m1) :
    Calls Tryz.prog 140 #[ptr b.wk, .int .i64 1, .int .i64 0] w (fun e w' => e = .returned (.int .u64 (wAt m0 m1 1 : Nat)) ∧ ScSt w0 w' ar b L) := by
  have HW := Lib.hid (ar_words' H.drew hA 1 (by decide))
  obtain ⟨c0, c1, c2⟩ := H.cells
  clear H hA
  unfold ptr at *
  go_enter Tryz.func140, Tryz.ntmps140
  go_wp2_with fail
  refine wp_region_M (r := 14) (S := fun w' => w'.cell? ⟨b.wk, 0, none⟩ = some (.pointer (some ⟨ar, 0, none⟩)) ∧ w'.cell? ⟨b.wk, 1, none⟩ = some (.slice (some ⟨b.ng, 0, none⟩) 5 b.nc) ∧ w'.cell? ⟨b.wk, 2, none⟩ = some (.slice (some ⟨b.rg, 0, none⟩) 5 5)) (by kernel_rfl) ?_ (fun hHeld => ?_)
  · (try dsimp only); exact ⟨c0, c1, c2⟩
  refine tkP 0 ?_; refine tkP 1 ?_; refine tkP 2 ?_; refine tkH 3 ?_; refine tkP 4 ?_; refine tkP 5 ?_; refine tkP 6 ?_; refine tkH 7 ?_; refine tkP 8 ?_; refine tkP 9 ?_; refine tkP 10 ?_; refine tkP 11 ?_; refine tkP 12 ?_; refine tkH 13 ?_; refine tkF 14 ?_
  intro K hK
  go_simp
  go_wp2_with ((go_at_call 213; refine HW.out.mono ?_; rintro e w1 ⟨rfl, h⟩; have H1 := Lib.hid h; clear h))
  refine hK.out _ _ ?_
  clear hK K
  refine tkP 15 ?_
  refine wpAnyM_done (by kernel_rfl) ?_ _
  clear hHeld
  go_wp2_with fail
  go_ret
  exact ⟨rfl, H1.out⟩
set_option maxHeartbeats 1000000 in
theorem sc_word_2 {w0 w : World} {L : List Asr} {ar : Nat} {b : ScB} {p : ArP} {m0 m1 : Nat} (H : ScSt w0 w ar b L) (hA : ArR w0 ar p m0 m1) :
    Calls Tryz.prog 140 #[ptr b.wk, .int .i64 2, .int .i64 0] w (fun e w' => e = .returned (.int .u64 (wAt m0 m1 2 : Nat)) ∧ ScSt w0 w' ar b L) := by
  have HW := Lib.hid (ar_words' H.drew hA 2 (by decide))
  obtain ⟨c0, c1, c2⟩ := H.cells
  clear H hA
  unfold ptr at *
  go_enter Tryz.func140, Tryz.ntmps140
  go_wp2_with fail
  refine wp_region_M (r := 14) (S := fun w' => w'.cell? ⟨b.wk, 0, none⟩ = some (.pointer (some ⟨ar, 0, none⟩)) ∧ w'.cell? ⟨b.wk, 1, none⟩ = some (.slice (some ⟨b.ng, 0, none⟩) 5 b.nc) ∧ w'.cell? ⟨b.wk, 2, none⟩ = some (.slice (some ⟨b.rg, 0, none⟩) 5 5)) (by kernel_rfl) ?_ (fun hHeld => ?_)
  · (try dsimp only); exact ⟨c0, c1, c2⟩
  refine tkP 0 ?_; refine tkP 1 ?_; refine tkP 2 ?_; refine tkH 3 ?_; refine tkP 4 ?_; refine tkP 5 ?_; refine tkP 6 ?_; refine tkH 7 ?_; refine tkP 8 ?_; refine tkP 9 ?_; refine tkP 10 ?_; refine tkP 11 ?_; refine tkP 12 ?_; refine tkH 13 ?_; refine tkF 14 ?_
  intro K hK
  go_simp
  go_wp2_with ((go_at_call 213; refine HW.out.mono ?_; rintro e w1 ⟨rfl, h⟩; have H1 := Lib.hid h; clear h))
  refine hK.out _ _ ?_
  clear hK K
  refine tkP 15 ?_
  refine wpAnyM_done (by kernel_rfl) ?_ _
  clear hHeld
  go_wp2_with fail
  go_ret
  exact ⟨rfl, H1.out⟩
set_option maxHeartbeats 1000000 in
theorem sc_word_3 {w0 w : World} {L : List Asr} {ar : Nat} {b : ScB} {p : ArP} {m0 m1 : Nat} (H : ScSt w0 w ar b L) (hA : ArR w0 ar p m0 m1) :
    Calls Tryz.prog 140 #[ptr b.wk, .int .i64 3, .int .i64 0] w (fun e w' => e = .returned (.int .u64 (wAt m0 m1 3 : Nat)) ∧ ScSt w0 w' ar b L) := by
  have HW := Lib.hid (ar_words' H.drew hA 3 (by decide))
  obtain ⟨c0, c1, c2⟩ := H.cells
  clear H hA
  unfold ptr at *
  go_enter Tryz.func140, Tryz.ntmps140
  go_wp2_with fail
  refine wp_region_M (r := 14) (S := fun w' => w'.cell? ⟨b.wk, 0, none⟩ = some (.pointer (some ⟨ar, 0, none⟩)) ∧ w'.cell? ⟨b.wk, 1, none⟩ = some (.slice (some ⟨b.ng, 0, none⟩) 5 b.nc) ∧ w'.cell? ⟨b.wk, 2, none⟩ = some (.slice (some ⟨b.rg, 0, none⟩) 5 5)) (by kernel_rfl) ?_ (fun hHeld => ?_)
  · (try dsimp only); exact ⟨c0, c1, c2⟩
  refine tkP 0 ?_; refine tkP 1 ?_; refine tkP 2 ?_; refine tkH 3 ?_; refine tkP 4 ?_; refine tkP 5 ?_; refine tkP 6 ?_; refine tkH 7 ?_; refine tkP 8 ?_; refine tkP 9 ?_; refine tkP 10 ?_; refine tkP 11 ?_; refine tkP 12 ?_; refine tkH 13 ?_; refine tkF 14 ?_
  intro K hK
  go_simp
  go_wp2_with ((go_at_call 213; refine HW.out.mono ?_; rintro e w1 ⟨rfl, h⟩; have H1 := Lib.hid h; clear h))
  refine hK.out _ _ ?_
  clear hK K
  refine tkP 15 ?_
  refine wpAnyM_done (by kernel_rfl) ?_ _
  clear hHeld
  go_wp2_with fail
  go_ret
  exact ⟨rfl, H1.out⟩
theorem firstZ (i : Nat) : firstW 0 i = -1 := by
  rcases firstW_cases 0 i with h | ⟨d, h⟩
  · exact h
  · have := (firstW_some h).2.2.1
    simp at this
theorem firstW_one0 : firstW 1 0 = 0 := by decide
theorem firstW_one1 : firstW 1 1 = -1 := by decide
theorem wAt_up {m0 m1 l : Nat} (hl : l ≠ 0) : (wAt m0 m1 l = 0 ∧ m0 &&& m1 = 0) ∨ wAt m0 m1 l = 1 := by
  unfold wAt wordAt
  rw [if_neg hl, if_neg hl]
  by_cases h0 : m0 = 0
  · subst h0
    exact .inl ⟨by simp, by simp⟩
  · by_cases h1 : m1 = 0
    · subst h1
      exact .inl ⟨by simp, by simp⟩
    · rw [if_neg h0, if_neg h1]
      exact .inr rfl
theorem wAt_0 (m0 m1 : Nat) : wAt m0 m1 0 = m0 &&& m1 := rfl
theorem firstGe (m i : Nat) : firstW m i = -1 ∨ 0 ≤ firstW m i := by
  rcases firstW_cases m i with h | ⟨d, h⟩
  · exact .inl h
  · exact .inr (by rw [h]; omega)
theorem firstGe2 (m i : Nat) : firstW m i = -1 ∨ (0 ≤ firstW m i ∧ firstW m i < 64) := by
  rcases firstW_cases m i with h | ⟨d, h⟩
  · exact .inl h
  · have := (firstW_some h).2.1
    exact .inr (by rw [h]; omega)
set_option maxHeartbeats 2000000 in
theorem sc_least_0_0 {w0 w : World} {L : List Asr} {ar : Nat} {b : ScB} {p : ArP} {m0 m1 : Nat} (H : ScSt w0 w ar b L) (hT : Tab w0) (hA : ArR w0 ar p m0 m1) :
    Calls Tryz.prog 212 #[ptr b.wk, .int .i64 0, .int .i64 0, .int .i64 0] w (fun e w' => e = .returned (.int .i64 (firstW (m0 &&& m1) 0)) ∧ ScSt w0 w' ar b L) := by
  have HW := Lib.hid (sc_word_0 H hA)
  have HT := Lib.hid hT
  have hlt : wAt m0 m1 0 < 2 ^ 64 := and_lt hA.h0.1
  rw [← wAt_0]
  have HF := Lib.hid (fun (w' : World) (h : ScSt w0 w' ar b L) => word_first (wAt m0 m1 0) hlt 0 (by decide) w' (h.tab hT))
  obtain ⟨m, hm⟩ : ∃ m, wAt m0 m1 0 = m := ⟨_, rfl⟩
  rw [hm] at HW HF ⊢
  have hc := firstGe2 m 0
  obtain ⟨d, hd⟩ : ∃ d, firstW m 0 = d := ⟨_, rfl⟩
  rw [hd] at HF hc ⊢
  clear H hA hm hd hlt hT
  unfold ptr at *
  go_enter Tryz.func212, Tryz.ntmps212
  go_wp2_with (first
    | (go_at_call 140; refine HW.out.mono ?_; rintro e w1 ⟨rfl, h⟩; have H1 := Lib.hid h; clear h)
    | (go_at_call 141; refine (HF.out _ H1.out).mono ?_; rintro e w2 ⟨rfl, rfl⟩))
  refine wp_loop_rounds 1 ?_
  rw [rounds_succ]
  rcases hc with rfl | ⟨hc, hc2⟩
  · go_wp2_with fail
    go_ret
    exact ⟨rfl, H1.out⟩
  · have e0 : decide (d ≥ 0) = true := decide_eq_true hc
    go_wp2_with fail
    go_ret
    exact ⟨rfl, H1.out⟩
set_option maxHeartbeats 2000000 in
theorem sc_least_1_0 {w0 w : World} {L : List Asr} {ar : Nat} {b : ScB} {p : ArP} {m0 m1 : Nat} (H : ScSt w0 w ar b L) (hT : Tab w0) (hA : ArR w0 ar p m0 m1) :
    Calls Tryz.prog 212 #[ptr b.wk, .int .i64 1, .int .i64 0, .int .i64 0] w (fun e w' => e = .returned (.int .i64 (firstW (m0 &&& m1) 0)) ∧ ScSt w0 w' ar b L) := by
  have HW := Lib.hid (sc_word_1 H hA)
  have HT := Lib.hid hT
  have HLE := Lib.hid (fun (w' : World) (h : ScSt w0 w' ar b L) => sc_least_0_0 h hT hA)
  have hup := wAt_up (m0 := m0) (m1 := m1) (l := 1) (by decide)
  have hlt : wAt m0 m1 1 < 2 ^ 64 := by rcases hup with h | h <;> omega
  have HF := Lib.hid (fun (w' : World) (h : ScSt w0 w' ar b L) (i : Nat) (hi : i ≤ 1000000) => word_first (wAt m0 m1 1) hlt i hi w' (h.tab hT))
  obtain ⟨mm, hmm⟩ : ∃ mm, m0 &&& m1 = mm := ⟨_, rfl⟩
  rw [hmm] at hup HLE ⊢
  obtain ⟨x, hx⟩ : ∃ x, wAt m0 m1 1 = x := ⟨_, rfl⟩
  rw [hx] at HW HF hup
  have hc := firstGe mm 0
  obtain ⟨d, hd⟩ : ∃ d, firstW mm 0 = d := ⟨_, rfl⟩
  rw [hd] at HLE hc ⊢
  have HD := Lib.hid hd
  clear H hA hx hlt hT hmm hd
  unfold ptr at *
  rcases hup with ⟨rfl, h0⟩ | rfl
  · have HF0 := Lib.hid (fun (w' : World) (h : ScSt w0 w' ar b L) => HF.out w' h 0 (by decide))
    rw [firstZ] at HF0
    have HE := Lib.hid (show d = -1 by rw [← HD.out, h0, firstZ])
    clear h0
    go_enter Tryz.func212, Tryz.ntmps212
    go_wp2_with (first
      | (go_at_call 140; refine HW.out.mono ?_; rintro e w1 ⟨rfl, h⟩; have H1 := Lib.hid h; clear h)
      | (go_at_call 141; refine (HF0.out _ H1.out).mono ?_; rintro e w2 ⟨rfl, rfl⟩))
    refine wp_loop_rounds 1 ?_
    rw [rounds_succ]
    go_wp2_with fail
    go_ret
    exact ⟨by rw [HE.out]; rfl, H1.out⟩
  · have HF0 := Lib.hid (fun (w' : World) (h : ScSt w0 w' ar b L) => HF.out w' h 0 (by decide))
    have HF1 := Lib.hid (fun (w' : World) (h : ScSt w0 w' ar b L) => HF.out w' h 1 (by decide))
    rw [firstW_one0] at HF0
    rw [firstW_one1] at HF1
    go_enter Tryz.func212, Tryz.ntmps212
    go_wp2_with (first
      | (go_at_call 140; refine HW.out.mono ?_; rintro e w1 ⟨rfl, h⟩; have H1 := Lib.hid h; clear h)
      | (go_at_call 141; refine (HF0.out _ H1.out).mono ?_; rintro e w2 ⟨rfl, rfl⟩))
    refine wp_loop_rounds 2 ?_
    rw [rounds_succ]
    rcases hc with rfl | hc
    · go_wp2_with (first
        | (go_at_call 212; refine (HLE.out _ H1.out).mono ?_; rintro e w3 ⟨rfl, h⟩; have H3 := Lib.hid h; clear h)
        | (go_at_call 141; refine (HF1.out _ H3.out).mono ?_; rintro e w4 ⟨rfl, rfl⟩))
      rw [rounds_succ]
      go_wp2_with fail
      go_ret
      exact ⟨rfl, H3.out⟩
    · have e0 : decide (d ≥ 0) = true := decide_eq_true hc
      go_wp2_with (go_at_call 212; refine (HLE.out _ H1.out).mono ?_; rintro e w3 ⟨rfl, h⟩; have H3 := Lib.hid h; clear h)
      go_ret
      exact ⟨rfl, H3.out⟩
set_option maxHeartbeats 2000000 in
theorem sc_least_2_0 {w0 w : World} {L : List Asr} {ar : Nat} {b : ScB} {p : ArP} {m0 m1 : Nat} (H : ScSt w0 w ar b L) (hT : Tab w0) (hA : ArR w0 ar p m0 m1) :
    Calls Tryz.prog 212 #[ptr b.wk, .int .i64 2, .int .i64 0, .int .i64 0] w (fun e w' => e = .returned (.int .i64 (firstW (m0 &&& m1) 0)) ∧ ScSt w0 w' ar b L) := by
  have HW := Lib.hid (sc_word_2 H hA)
  have HT := Lib.hid hT
  have HLE := Lib.hid (fun (w' : World) (h : ScSt w0 w' ar b L) => sc_least_1_0 h hT hA)
  have hup := wAt_up (m0 := m0) (m1 := m1) (l := 2) (by decide)
  have hlt : wAt m0 m1 2 < 2 ^ 64 := by rcases hup with h | h <;> omega
  have HF := Lib.hid (fun (w' : World) (h : ScSt w0 w' ar b L) (i : Nat) (hi : i ≤ 1000000) => word_first (wAt m0 m1 2) hlt i hi w' (h.tab hT))
  obtain ⟨mm, hmm⟩ : ∃ mm, m0 &&& m1 = mm := ⟨_, rfl⟩
  rw [hmm] at hup HLE ⊢
  obtain ⟨x, hx⟩ : ∃ x, wAt m0 m1 2 = x := ⟨_, rfl⟩
  rw [hx] at HW HF hup
  have hc := firstGe mm 0
  obtain ⟨d, hd⟩ : ∃ d, firstW mm 0 = d := ⟨_, rfl⟩
  rw [hd] at HLE hc ⊢
  have HD := Lib.hid hd
  clear H hA hx hlt hT hmm hd
  unfold ptr at *
  rcases hup with ⟨rfl, h0⟩ | rfl
  · have HF0 := Lib.hid (fun (w' : World) (h : ScSt w0 w' ar b L) => HF.out w' h 0 (by decide))
    rw [firstZ] at HF0
    have HE := Lib.hid (show d = -1 by rw [← HD.out, h0, firstZ])
    clear h0
    go_enter Tryz.func212, Tryz.ntmps212
    go_wp2_with (first
      | (go_at_call 140; refine HW.out.mono ?_; rintro e w1 ⟨rfl, h⟩; have H1 := Lib.hid h; clear h)
      | (go_at_call 141; refine (HF0.out _ H1.out).mono ?_; rintro e w2 ⟨rfl, rfl⟩))
    refine wp_loop_rounds 1 ?_
    rw [rounds_succ]
    go_wp2_with fail
    go_ret
    exact ⟨by rw [HE.out]; rfl, H1.out⟩
  · have HF0 := Lib.hid (fun (w' : World) (h : ScSt w0 w' ar b L) => HF.out w' h 0 (by decide))
    have HF1 := Lib.hid (fun (w' : World) (h : ScSt w0 w' ar b L) => HF.out w' h 1 (by decide))
    rw [firstW_one0] at HF0
    rw [firstW_one1] at HF1
    go_enter Tryz.func212, Tryz.ntmps212
    go_wp2_with (first
      | (go_at_call 140; refine HW.out.mono ?_; rintro e w1 ⟨rfl, h⟩; have H1 := Lib.hid h; clear h)
      | (go_at_call 141; refine (HF0.out _ H1.out).mono ?_; rintro e w2 ⟨rfl, rfl⟩))
    refine wp_loop_rounds 2 ?_
    rw [rounds_succ]
    rcases hc with rfl | hc
    · go_wp2_with (first
        | (go_at_call 212; refine (HLE.out _ H1.out).mono ?_; rintro e w3 ⟨rfl, h⟩; have H3 := Lib.hid h; clear h)
        | (go_at_call 141; refine (HF1.out _ H3.out).mono ?_; rintro e w4 ⟨rfl, rfl⟩))
      rw [rounds_succ]
      go_wp2_with fail
      go_ret
      exact ⟨rfl, H3.out⟩
    · have e0 : decide (d ≥ 0) = true := decide_eq_true hc
      go_wp2_with (go_at_call 212; refine (HLE.out _ H1.out).mono ?_; rintro e w3 ⟨rfl, h⟩; have H3 := Lib.hid h; clear h)
      go_ret
      exact ⟨rfl, H3.out⟩
set_option maxHeartbeats 2000000 in
theorem sc_least_3_0 {w0 w : World} {L : List Asr} {ar : Nat} {b : ScB} {p : ArP} {m0 m1 : Nat} (H : ScSt w0 w ar b L) (hT : Tab w0) (hA : ArR w0 ar p m0 m1) :
    Calls Tryz.prog 212 #[ptr b.wk, .int .i64 3, .int .i64 0, .int .i64 0] w (fun e w' => e = .returned (.int .i64 (firstW (m0 &&& m1) 0)) ∧ ScSt w0 w' ar b L) := by
  have HW := Lib.hid (sc_word_3 H hA)
  have HT := Lib.hid hT
  have HLE := Lib.hid (fun (w' : World) (h : ScSt w0 w' ar b L) => sc_least_2_0 h hT hA)
  have hup := wAt_up (m0 := m0) (m1 := m1) (l := 3) (by decide)
  have hlt : wAt m0 m1 3 < 2 ^ 64 := by rcases hup with h | h <;> omega
  have HF := Lib.hid (fun (w' : World) (h : ScSt w0 w' ar b L) (i : Nat) (hi : i ≤ 1000000) => word_first (wAt m0 m1 3) hlt i hi w' (h.tab hT))
  obtain ⟨mm, hmm⟩ : ∃ mm, m0 &&& m1 = mm := ⟨_, rfl⟩
  rw [hmm] at hup HLE ⊢
  obtain ⟨x, hx⟩ : ∃ x, wAt m0 m1 3 = x := ⟨_, rfl⟩
  rw [hx] at HW HF hup
  have hc := firstGe mm 0
  obtain ⟨d, hd⟩ : ∃ d, firstW mm 0 = d := ⟨_, rfl⟩
  rw [hd] at HLE hc ⊢
  have HD := Lib.hid hd
  clear H hA hx hlt hT hmm hd
  unfold ptr at *
  rcases hup with ⟨rfl, h0⟩ | rfl
  · have HF0 := Lib.hid (fun (w' : World) (h : ScSt w0 w' ar b L) => HF.out w' h 0 (by decide))
    rw [firstZ] at HF0
    have HE := Lib.hid (show d = -1 by rw [← HD.out, h0, firstZ])
    clear h0
    go_enter Tryz.func212, Tryz.ntmps212
    go_wp2_with (first
      | (go_at_call 140; refine HW.out.mono ?_; rintro e w1 ⟨rfl, h⟩; have H1 := Lib.hid h; clear h)
      | (go_at_call 141; refine (HF0.out _ H1.out).mono ?_; rintro e w2 ⟨rfl, rfl⟩))
    refine wp_loop_rounds 1 ?_
    rw [rounds_succ]
    go_wp2_with fail
    go_ret
    exact ⟨by rw [HE.out]; rfl, H1.out⟩
  · have HF0 := Lib.hid (fun (w' : World) (h : ScSt w0 w' ar b L) => HF.out w' h 0 (by decide))
    have HF1 := Lib.hid (fun (w' : World) (h : ScSt w0 w' ar b L) => HF.out w' h 1 (by decide))
    rw [firstW_one0] at HF0
    rw [firstW_one1] at HF1
    go_enter Tryz.func212, Tryz.ntmps212
    go_wp2_with (first
      | (go_at_call 140; refine HW.out.mono ?_; rintro e w1 ⟨rfl, h⟩; have H1 := Lib.hid h; clear h)
      | (go_at_call 141; refine (HF0.out _ H1.out).mono ?_; rintro e w2 ⟨rfl, rfl⟩))
    refine wp_loop_rounds 2 ?_
    rw [rounds_succ]
    rcases hc with rfl | hc
    · go_wp2_with (first
        | (go_at_call 212; refine (HLE.out _ H1.out).mono ?_; rintro e w3 ⟨rfl, h⟩; have H3 := Lib.hid h; clear h)
        | (go_at_call 141; refine (HF1.out _ H3.out).mono ?_; rintro e w4 ⟨rfl, rfl⟩))
      rw [rounds_succ]
      go_wp2_with fail
      go_ret
      exact ⟨rfl, H3.out⟩
    · have e0 : decide (d ≥ 0) = true := decide_eq_true hc
      go_wp2_with (go_at_call 212; refine (HLE.out _ H1.out).mono ?_; rintro e w3 ⟨rfl, h⟩; have H3 := Lib.hid h; clear h)
      go_ret
      exact ⟨rfl, H3.out⟩
set_option maxHeartbeats 2000000 in
theorem sc_least_1_64 {w0 w : World} {L : List Asr} {ar : Nat} {b : ScB} {p : ArP} {m0 m1 : Nat} (H : ScSt w0 w ar b L) (hT : Tab w0) (hA : ArR w0 ar p m0 m1) :
    Calls Tryz.prog 212 #[ptr b.wk, .int .i64 1, .int .i64 0, .int .i64 64] w (fun e w' => e = .returned (.int .i64 (-1)) ∧ ScSt w0 w' ar b L) := by
  have HW := Lib.hid (sc_word_1 H hA)
  have HT := Lib.hid hT
  have hup := wAt_up (m0 := m0) (m1 := m1) (l := 1) (by decide)
  have hlt : wAt m0 m1 1 < 2 ^ 64 := by rcases hup with h | h <;> omega
  have HF := Lib.hid (fun (w' : World) (h : ScSt w0 w' ar b L) (i : Nat) (hi : i ≤ 1000000) => word_first (wAt m0 m1 1) hlt i hi w' (h.tab hT))
  obtain ⟨x, hx⟩ : ∃ x, wAt m0 m1 1 = x := ⟨_, rfl⟩
  rw [hx] at HW HF hup
  clear H hA hx hlt hT
  unfold ptr at *
  rcases hup with ⟨rfl, h0⟩ | rfl
  · have HF0 := Lib.hid (fun (w' : World) (h : ScSt w0 w' ar b L) => HF.out w' h 1 (by decide))
    rw [firstZ] at HF0
    go_enter Tryz.func212, Tryz.ntmps212
    go_wp2_with (first
      | (go_at_call 140; refine HW.out.mono ?_; rintro e w1 ⟨rfl, h⟩; have H1 := Lib.hid h; clear h)
      | (go_at_call 141; refine (HF0.out _ H1.out).mono ?_; rintro e w2 ⟨rfl, rfl⟩))
    refine wp_loop_rounds 1 ?_
    rw [rounds_succ]
    go_wp2_with fail
    go_ret
    exact ⟨rfl, H1.out⟩
  · have HF0 := Lib.hid (fun (w' : World) (h : ScSt w0 w' ar b L) => HF.out w' h 1 (by decide))
    rw [firstW_one1] at HF0
    go_enter Tryz.func212, Tryz.ntmps212
    go_wp2_with (first
      | (go_at_call 140; refine HW.out.mono ?_; rintro e w1 ⟨rfl, h⟩; have H1 := Lib.hid h; clear h)
      | (go_at_call 141; refine (HF0.out _ H1.out).mono ?_; rintro e w2 ⟨rfl, rfl⟩))
    refine wp_loop_rounds 1 ?_
    rw [rounds_succ]
    go_wp2_with fail
    go_ret
    exact ⟨rfl, H1.out⟩
set_option maxHeartbeats 2000000 in
theorem sc_least_2_64 {w0 w : World} {L : List Asr} {ar : Nat} {b : ScB} {p : ArP} {m0 m1 : Nat} (H : ScSt w0 w ar b L) (hT : Tab w0) (hA : ArR w0 ar p m0 m1) :
    Calls Tryz.prog 212 #[ptr b.wk, .int .i64 2, .int .i64 0, .int .i64 64] w (fun e w' => e = .returned (.int .i64 (-1)) ∧ ScSt w0 w' ar b L) := by
  have HW := Lib.hid (sc_word_2 H hA)
  have HT := Lib.hid hT
  have HLE := Lib.hid (fun (w' : World) (h : ScSt w0 w' ar b L) => sc_least_1_64 h hT hA)
  have hup := wAt_up (m0 := m0) (m1 := m1) (l := 2) (by decide)
  have hlt : wAt m0 m1 2 < 2 ^ 64 := by rcases hup with h | h <;> omega
  have HF := Lib.hid (fun (w' : World) (h : ScSt w0 w' ar b L) (i : Nat) (hi : i ≤ 1000000) => word_first (wAt m0 m1 2) hlt i hi w' (h.tab hT))
  obtain ⟨x, hx⟩ : ∃ x, wAt m0 m1 2 = x := ⟨_, rfl⟩
  rw [hx] at HW HF hup
  clear H hA hx hlt hT
  unfold ptr at *
  rcases hup with ⟨rfl, h0⟩ | rfl
  · have HF0 := Lib.hid (fun (w' : World) (h : ScSt w0 w' ar b L) => HF.out w' h 0 (by decide))
    rw [firstZ] at HF0
    go_enter Tryz.func212, Tryz.ntmps212
    go_wp2_with (first
      | (go_at_call 140; refine HW.out.mono ?_; rintro e w1 ⟨rfl, h⟩; have H1 := Lib.hid h; clear h)
      | (go_at_call 141; refine (HF0.out _ H1.out).mono ?_; rintro e w2 ⟨rfl, rfl⟩))
    refine wp_loop_rounds 1 ?_
    rw [rounds_succ]
    go_wp2_with fail
    go_ret
    exact ⟨rfl, H1.out⟩
  · have HF0 := Lib.hid (fun (w' : World) (h : ScSt w0 w' ar b L) => HF.out w' h 0 (by decide))
    have HF1 := Lib.hid (fun (w' : World) (h : ScSt w0 w' ar b L) => HF.out w' h 1 (by decide))
    rw [firstW_one0] at HF0
    rw [firstW_one1] at HF1
    go_enter Tryz.func212, Tryz.ntmps212
    go_wp2_with (first
      | (go_at_call 140; refine HW.out.mono ?_; rintro e w1 ⟨rfl, h⟩; have H1 := Lib.hid h; clear h)
      | (go_at_call 141; refine (HF0.out _ H1.out).mono ?_; rintro e w2 ⟨rfl, rfl⟩))
    refine wp_loop_rounds 2 ?_
    rw [rounds_succ]
    go_wp2_with (first
      | (go_at_call 212; refine (HLE.out _ H1.out).mono ?_; rintro e w3 ⟨rfl, h⟩; have H3 := Lib.hid h; clear h)
      | (go_at_call 141; refine (HF1.out _ H3.out).mono ?_; rintro e w4 ⟨rfl, rfl⟩))
    rw [rounds_succ]
    go_wp2_with fail
    go_ret
    exact ⟨rfl, H3.out⟩
set_option maxHeartbeats 2000000 in
theorem sc_least_3_64 {w0 w : World} {L : List Asr} {ar : Nat} {b : ScB} {p : ArP} {m0 m1 : Nat} (H : ScSt w0 w ar b L) (hT : Tab w0) (hA : ArR w0 ar p m0 m1) :
    Calls Tryz.prog 212 #[ptr b.wk, .int .i64 3, .int .i64 0, .int .i64 64] w (fun e w' => e = .returned (.int .i64 (-1)) ∧ ScSt w0 w' ar b L) := by
  have HW := Lib.hid (sc_word_3 H hA)
  have HT := Lib.hid hT
  have HLE := Lib.hid (fun (w' : World) (h : ScSt w0 w' ar b L) => sc_least_2_64 h hT hA)
  have hup := wAt_up (m0 := m0) (m1 := m1) (l := 3) (by decide)
  have hlt : wAt m0 m1 3 < 2 ^ 64 := by rcases hup with h | h <;> omega
  have HF := Lib.hid (fun (w' : World) (h : ScSt w0 w' ar b L) (i : Nat) (hi : i ≤ 1000000) => word_first (wAt m0 m1 3) hlt i hi w' (h.tab hT))
  obtain ⟨x, hx⟩ : ∃ x, wAt m0 m1 3 = x := ⟨_, rfl⟩
  rw [hx] at HW HF hup
  clear H hA hx hlt hT
  unfold ptr at *
  rcases hup with ⟨rfl, h0⟩ | rfl
  · have HF0 := Lib.hid (fun (w' : World) (h : ScSt w0 w' ar b L) => HF.out w' h 0 (by decide))
    rw [firstZ] at HF0
    go_enter Tryz.func212, Tryz.ntmps212
    go_wp2_with (first
      | (go_at_call 140; refine HW.out.mono ?_; rintro e w1 ⟨rfl, h⟩; have H1 := Lib.hid h; clear h)
      | (go_at_call 141; refine (HF0.out _ H1.out).mono ?_; rintro e w2 ⟨rfl, rfl⟩))
    refine wp_loop_rounds 1 ?_
    rw [rounds_succ]
    go_wp2_with fail
    go_ret
    exact ⟨rfl, H1.out⟩
  · have HF0 := Lib.hid (fun (w' : World) (h : ScSt w0 w' ar b L) => HF.out w' h 0 (by decide))
    have HF1 := Lib.hid (fun (w' : World) (h : ScSt w0 w' ar b L) => HF.out w' h 1 (by decide))
    rw [firstW_one0] at HF0
    rw [firstW_one1] at HF1
    go_enter Tryz.func212, Tryz.ntmps212
    go_wp2_with (first
      | (go_at_call 140; refine HW.out.mono ?_; rintro e w1 ⟨rfl, h⟩; have H1 := Lib.hid h; clear h)
      | (go_at_call 141; refine (HF0.out _ H1.out).mono ?_; rintro e w2 ⟨rfl, rfl⟩))
    refine wp_loop_rounds 2 ?_
    rw [rounds_succ]
    go_wp2_with (first
      | (go_at_call 212; refine (HLE.out _ H1.out).mono ?_; rintro e w3 ⟨rfl, h⟩; have H3 := Lib.hid h; clear h)
      | (go_at_call 141; refine (HF1.out _ H3.out).mono ?_; rintro e w4 ⟨rfl, rfl⟩))
    rw [rounds_succ]
    go_wp2_with fail
    go_ret
    exact ⟨rfl, H3.out⟩
end Go.Proofs.YtkiikblpgppmkaaGreatDoor
