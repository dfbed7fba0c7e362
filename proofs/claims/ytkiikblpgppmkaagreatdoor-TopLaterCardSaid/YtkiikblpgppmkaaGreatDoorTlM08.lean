/-
  Sets of numbers below 64: Remove in all cases; the least from one on: Next; Sets of numbers below 64: Clear.
-/
import Derived.Test.YtkiikblpgppmkaaGreatDoorTlM07
namespace Go.Proofs.YtkiikblpgppmkaaGreatDoor
open Go Go.RowKit
set_option linter.unusedVariables false
set_option linter.unusedSimpArgs false

theorem hib_rem_no (b m i : Nat) (hi : i < 64) (w : World) (h : RdHib w b m) (hb : m.testBit i = false) :
    Calls Tryz.prog 148 #[ptr b, .int .i64 (i : Nat)] w (Ret w (.tuple #[.bool false, .int .i64 0])) := by
  have HH := Lib.hid (hib_has b m i hi w h)
  rw [hb] at HH
  have HOK := Lib.hid (hib_ok i hi w)
  clear h hb
  unfold ptr at *
  go_enter Tryz.func148, Tryz.ntmps148
  go_wp2_with (first | (go_at_call 199; refine HOK.out.mono ?_; rintro e w' ⟨rfl, rfl⟩) | (go_at_call 120; refine HH.out.mono ?_; rintro e w1 ⟨rfl, hk⟩; have HK := Lib.hid hk; clear hk))
  go_ret2
  exact ⟨rfl, HK.out⟩
theorem delW_no {m i : Nat} (hm : m < 2 ^ 64) (h : m.testBit i = false) : delW m i = m := by
  apply word_ext (delW_lt m i) hm
  intro k hk
  rw [bit_del m i hk]
  by_cases e : k = i
  · rw [e, h]; simp
  · simp [e]
theorem hib_remove {w0 w : World} {L : List Asr} {b m : Nat} (H : St w0 w L) (p : Nat) (hp : L[p]? = some (hibA b m)) (hm : m < 2 ^ 64) (i : Nat) (hi : i < 64) :
    Calls Tryz.prog 148 #[ptr b, .int .i64 (i : Nat)] w (fun e w' => e = .returned (.tuple #[.bool (m.testBit i), .int .i64 0]) ∧ St w0 w' (L.set p (hibA b (delW m i)))) := by
  by_cases hb : m.testBit i = true
  · rw [hb]
    exact hib_rem H p hp hm i hi hb
  · have hb' : m.testBit i = false := by simpa using hb
    rw [hb', delW_no hm hb']
    refine (hib_rem_no b m i hi w (H.hibRd p hp hm) hb').mono ?_
    rintro e w' ⟨rfl, hk⟩
    have e : L.set p (hibA b m) = L := by
      apply List.ext_getElem?
      intro j
      by_cases e : p = j
      · subst e
        rw [List.getElem?_set_self (List.getElem?_eq_some_iff.1 hp).1, hp]
      · rw [List.getElem?_set_ne e]
    rw [e]
    exact ⟨rfl, H.keep hk⟩

/-- The least of a leaf. -/
theorem least_0 (c m i : Nat) (hm : m < 2 ^ 64) (hi : i ≤ 64) (w : World) (hT : Tab w) (hc : w.cell? ⟨c, 0, none⟩ = some (.int .u64 (m : Nat))) :
    Calls Tryz.prog 217 #[ptr c, .int .i64 0, .int .i64 (i : Nat)] w (Ret w (.int .i64 (firstW m i))) := by
  have HF := Lib.hid (fun w' (hk : Keep w w' Nope) => word_first m hm i (by omega) w' (hT.keep hk (fun f => f)))
  have HC := Lib.hid (firstW_cases m i)
  obtain ⟨f, hf⟩ : ∃ f, firstW m i = f := ⟨_, rfl⟩
  rw [hf] at HF HC ⊢
  clear hf hT
  have hw : IntKind.i64.wrap (i : Int) = (i : Int) := IntWalk.i64_in _ (by omega)
  unfold ptr
  go_enter Tryz.func217, Tryz.ntmps217
  go_wp2_with fail
  refine wp_region_M (r := 8) (S := fun w' => w'.cell? ⟨c, 0, none⟩ = some (.int .u64 (m : Nat)) ∧ Keep w w' Nope) (by kernel_rfl) ?_ (fun hHeld => ?_)
  · (try dsimp only); exact ⟨hc, show Keep w _ Nope from (by (repeat (first | exact Keep.refl _ _ | apply Keep.drew | apply Keep.drewN | apply Keep.alloc)))⟩
  refine tkP 0 ?_; refine tkP 1 ?_; refine tkP 2 ?_; refine tkH 3 ?_; refine tkP 4 ?_; refine tkP 5 ?_; refine tkP 6 ?_; refine tkC 7 ?_
  intro K hK
  go_simp
  go_wp2_with ((go_at_call 141; refine (HF.out _ (show Keep w _ Nope from (by (repeat (first | exact Keep.refl _ _ | apply Keep.drew | apply Keep.drewN | apply Keep.alloc))))).mono ?_; rintro e w' ⟨rfl, rfl⟩))
  refine hK.out _ _ ?_ (fun hHeld => ?_)
  · (try dsimp only); exact ⟨hc, show Keep w _ Nope from (by (repeat (first | exact Keep.refl _ _ | apply Keep.drew | apply Keep.drewN | apply Keep.alloc)))⟩
  clear hK K
  refine tkF 8 ?_
  intro K hK
  go_simp
  refine hK.out _ _ ?_
  clear hK K
  refine wpAnyM_done (by kernel_rfl) ?_ _
  clear hw hHeld
  rcases HC.out with rfl | ⟨d, rfl⟩
  · go_wp2_with fail
    refine wp_loop_rounds 1 ?_
    rw [rounds_succ]
    go_wp2_with fail
    go_ret
    exact ⟨rfl, (show Keep w _ Nope from (by (repeat (first | exact Keep.refl _ _ | apply Keep.drew | apply Keep.drewN | apply Keep.alloc))))⟩
  · have hd : decide ((d : Int) ≥ 0) = true := decide_eq_true (by omega)
    go_wp2_with fail
    refine wp_loop_rounds 1 ?_
    rw [rounds_succ]
    go_wp2_with fail
    go_ret
    exact ⟨rfl, (show Keep w _ Nope from (by (repeat (first | exact Keep.refl _ _ | apply Keep.drew | apply Keep.drewN | apply Keep.alloc))))⟩
theorem firstW_casesB (m i : Nat) : firstW m i = -1 ∨ ∃ d : Nat, firstW m i = (d : Int) ∧ d < 64 := by
  rcases firstW_cases m i with h | ⟨d, h⟩
  · exact .inl h
  · exact .inr ⟨d, h, (firstW_some h).2.1⟩
/-- The least of a node whose one kid is the first. -/
theorem least_s (c k l m i : Nat) (hl : (l = 1 ∧ i ≤ 63) ∨ l = 2 ∨ l = 3) (hi : i ≤ 64) (w : World) (hT : Tab w) (hc : w.cell? ⟨c, 0, none⟩ = some (.int .u64 1)) (hk : w.cell? ⟨c, 1, none⟩ = some (ptr k))
    (HL : ∀ w', Keep w w' Nope → Calls Tryz.prog 217 #[ptr k, .int .i64 ((l - 1 : Nat) : Int), .int .i64 (i : Nat)] w' (Ret w' (.int .i64 (firstW m i)))) :
    Calls Tryz.prog 217 #[ptr c, .int .i64 (l : Nat), .int .i64 (i : Nat)] w (Ret w (.int .i64 (firstW m i))) := by
  have HF0 := Lib.hid (fun w' (hk : Keep w w' Nope) => word_first 1 (by decide) 0 (by omega) w' (hT.keep hk (fun f => f)))
  have HF1 := Lib.hid (fun w' (hk : Keep w w' Nope) => word_first 1 (by decide) 1 (by omega) w' (hT.keep hk (fun f => f)))
  rw [show firstW 1 0 = 0 from rfl] at HF0
  rw [show firstW 1 1 = -1 from rfl] at HF1
  have HC := Lib.hid (firstW_casesB m i)
  have HLL := Lib.hid HL
  clear HL
  obtain ⟨f, hf⟩ : ∃ f, firstW m i = f := ⟨_, rfl⟩
  rw [hf] at HLL HC ⊢
  clear hf hT
  have HCC := Lib.hid (And.intro hc hk)
  have e2 : (i : Int) / 4096 = 0 := by omega
  have e3 : (i : Int) / 262144 = 0 := by omega
  have hm : max (i : Int) 0 = (i : Int) := by omega
  have hm2 : ¬ ((i : Int) < 0) := by omega
  unfold ptr at *
  rcases hl with ⟨rfl, h63⟩ | rfl | rfl
  all_goals
    try have e1 : (i : Int) / 64 = 0 := by omega
    go_enter Tryz.func217, Tryz.ntmps217
    go_wp2_with fail
    refine wp_region_M (r := 8) (S := fun w' => w'.cell? ⟨c, 0, none⟩ = some (.int .u64 1) ∧ Keep w w' Nope) (by kernel_rfl) ?_ (fun hHeld => ?_)
    · (try dsimp only); exact ⟨hc, show Keep w _ Nope from (by (repeat (first | exact Keep.refl _ _ | apply Keep.drew | apply Keep.drewN | apply Keep.alloc)))⟩
    refine tkP 0 ?_; refine tkP 1 ?_; refine tkP 2 ?_; refine tkH 3 ?_; refine tkP 4 ?_; refine tkP 5 ?_; refine tkP 6 ?_; refine tkC 7 ?_
    intro K hK
    go_simp
    go_wp2_with ((go_at_call 141; refine (HF0.out _ (show Keep w _ Nope from (by (repeat (first | exact Keep.refl _ _ | apply Keep.drew | apply Keep.drewN | apply Keep.alloc))))).mono ?_; rintro e w' ⟨rfl, rfl⟩))
    refine hK.out _ _ ?_ (fun hHeld => ?_)
    · (try dsimp only); exact ⟨hc, show Keep w _ Nope from (by (repeat (first | exact Keep.refl _ _ | apply Keep.drew | apply Keep.drewN | apply Keep.alloc)))⟩
    clear hK K
    refine tkF 8 ?_
    intro K hK
    go_simp
    refine hK.out _ _ ?_
    clear hK K
    refine wpAnyM_done (by kernel_rfl) ?_ _
    clear hHeld
    have kw := (show Keep w w.drew Nope from (Keep.refl _ _).drew)
    have HKW := Lib.hid kw
    clear kw
    go_wp2_with fail
    refine wp_loop_rounds 2 ?_
    rw [rounds_succ]
    have kk := HKW.out.cell HCC.out.2 (fun f => f)
    go_wp2_with fail
    go_at_call 217
    refine (HLL.out _ HKW.out).mono ?_
    rintro e w2 ⟨rfl, hk2⟩
    have HK2 := Lib.hid (HKW.out.trans hk2 (fun _ f => f.elim))
    clear hk2
    rcases HC.out with rfl | ⟨d, rfl, hd64⟩
    · have kc2 := HK2.out.cell HCC.out.1 (fun f => f)
      go_wp2_with (go_at_call 141; refine (HF1.out _ HK2.out).mono ?_; rintro e w' ⟨rfl, rfl⟩)
      rw [rounds_succ]
      go_wp2_with fail
      go_ret
      exact ⟨rfl, HK2.out⟩
    · have hd : decide ((d : Int) ≥ 0) = true := decide_eq_true (by omega)
      go_wp2_with fail
      go_ret
      exact ⟨by go_num, HK2.out⟩
/-- The last number of all is behind. -/
theorem least_1e (c : Nat) (w : World) (hT : Tab w) (hc : w.cell? ⟨c, 0, none⟩ = some (.int .u64 1)) :
    Calls Tryz.prog 217 #[ptr c, .int .i64 1, .int .i64 64] w (Ret w (.int .i64 (-1))) := by
  have HF1 := Lib.hid (fun w' (hk : Keep w w' Nope) => word_first 1 (by decide) 1 (by omega) w' (hT.keep hk (fun f => f)))
  rw [show firstW 1 1 = -1 from rfl] at HF1
  clear hT
  unfold ptr
  go_enter Tryz.func217, Tryz.ntmps217
  go_wp2_with fail
  refine wp_region_M (r := 8) (S := fun w' => w'.cell? ⟨c, 0, none⟩ = some (.int .u64 1) ∧ Keep w w' Nope) (by kernel_rfl) ?_ (fun hHeld => ?_)
  · (try dsimp only); exact ⟨hc, show Keep w _ Nope from (by (repeat (first | exact Keep.refl _ _ | apply Keep.drew | apply Keep.drewN | apply Keep.alloc)))⟩
  refine tkP 0 ?_; refine tkP 1 ?_; refine tkP 2 ?_; refine tkH 3 ?_; refine tkP 4 ?_; refine tkP 5 ?_; refine tkP 6 ?_; refine tkC 7 ?_
  intro K hK
  go_simp
  go_wp2_with ((go_at_call 141; refine (HF1.out _ (show Keep w _ Nope from (by (repeat (first | exact Keep.refl _ _ | apply Keep.drew | apply Keep.drewN | apply Keep.alloc))))).mono ?_; rintro e w' ⟨rfl, rfl⟩))
  refine hK.out _ _ ?_ (fun hHeld => ?_)
  · (try dsimp only); exact ⟨hc, show Keep w _ Nope from (by (repeat (first | exact Keep.refl _ _ | apply Keep.drew | apply Keep.drewN | apply Keep.alloc)))⟩
  clear hK K
  refine tkF 8 ?_
  intro K hK
  go_simp
  refine hK.out _ _ ?_
  clear hK K
  refine wpAnyM_done (by kernel_rfl) ?_ _
  clear hHeld
  go_wp2_with fail
  refine wp_loop_rounds 1 ?_
  rw [rounds_succ]
  go_wp2_with fail
  go_ret
  exact ⟨rfl, (show Keep w _ Nope from (by (repeat (first | exact Keep.refl _ _ | apply Keep.drew | apply Keep.drewN | apply Keep.alloc))))⟩
/-- An empty set. -/
theorem least_e (b i : Nat) (hi : i ≤ 64) (w : World) (hT : Tab w) (hc : w.cell? ⟨b, 0, none⟩ = some (.int .u64 0)) :
    Calls Tryz.prog 217 #[ptr b, .int .i64 3, .int .i64 (i : Nat)] w (Ret w (.int .i64 (-1))) := by
  have HF1 := Lib.hid (fun w' (hk : Keep w w' Nope) => word_first 0 (by decide) 0 (by omega) w' (hT.keep hk (fun f => f)))
  rw [show firstW 0 0 = -1 from rfl] at HF1
  have e3 : (i : Int) / 262144 = 0 := by omega
  clear hT
  unfold ptr
  go_enter Tryz.func217, Tryz.ntmps217
  go_wp2_with fail
  refine wp_region_M (r := 8) (S := fun w' => w'.cell? ⟨b, 0, none⟩ = some (.int .u64 0) ∧ Keep w w' Nope) (by kernel_rfl) ?_ (fun hHeld => ?_)
  · (try dsimp only); exact ⟨hc, show Keep w _ Nope from (by (repeat (first | exact Keep.refl _ _ | apply Keep.drew | apply Keep.drewN | apply Keep.alloc)))⟩
  refine tkP 0 ?_; refine tkP 1 ?_; refine tkP 2 ?_; refine tkH 3 ?_; refine tkP 4 ?_; refine tkP 5 ?_; refine tkP 6 ?_; refine tkC 7 ?_
  intro K hK
  go_simp
  go_wp2_with ((go_at_call 141; refine (HF1.out _ (show Keep w _ Nope from (by (repeat (first | exact Keep.refl _ _ | apply Keep.drew | apply Keep.drewN | apply Keep.alloc))))).mono ?_; rintro e w' ⟨rfl, rfl⟩))
  refine hK.out _ _ ?_ (fun hHeld => ?_)
  · (try dsimp only); exact ⟨hc, show Keep w _ Nope from (by (repeat (first | exact Keep.refl _ _ | apply Keep.drew | apply Keep.drewN | apply Keep.alloc)))⟩
  clear hK K
  refine tkF 8 ?_
  intro K hK
  go_simp
  refine hK.out _ _ ?_
  clear hK K
  refine wpAnyM_done (by kernel_rfl) ?_ _
  clear hHeld
  go_wp2_with fail
  refine wp_loop_rounds 1 ?_
  rw [rounds_succ]
  go_wp2_with fail
  go_ret
  exact ⟨rfl, (show Keep w _ Nope from (by (repeat (first | exact Keep.refl _ _ | apply Keep.drew | apply Keep.drewN | apply Keep.alloc))))⟩
theorem firstW_zero (i : Nat) : firstW 0 i = -1 := by
  rcases firstW_cases 0 i with h | ⟨d, h⟩
  · exact h
  · obtain ⟨_, _, h3, _⟩ := firstW_some h
    simp at h3
/-- Next. -/
theorem hib_next (b m i : Nat) (hi : i ≤ 64) (w : World) (hT : Tab w) (h : RdHib w b m) :
    Calls Tryz.prog 146 #[ptr b, .int .i64 (i : Nat)] w (Ret w (.int .i64 (firstW m i))) := by
  have HL : Calls Tryz.prog 217 #[ptr b, .int .i64 3, .int .i64 (i : Nat)] w (Ret w (.int .i64 (firstW m i))) := by
    obtain ⟨hm, ⟨rfl, h⟩ | ⟨h0, ⟨b2, b1, b0⟩, g3, g2, g1, g0⟩⟩ := h
    · rw [firstW_zero]
      exact least_e b i hi w hT (by rw [h.cell]; rfl)
    · refine least_s b b2 3 m i (.inr (.inr rfl)) hi w hT (by rw [g3.cell]; rfl) (by rw [g3.cell]; rfl) (fun w1 k1 => ?_)
      have hT1 := hT.keep k1 (fun f => f)
      refine least_s b2 b1 2 m i (.inr (.inl rfl)) hi w1 hT1 (by rw [(g2.keep k1 (fun f => f)).cell]; rfl) (by rw [(g2.keep k1 (fun f => f)).cell]; rfl) (fun w2 k2 => ?_)
      have hT2 := hT1.keep k2 (fun f => f)
      have q1 := (g1.keep k1 (fun f => f)).keep k2 (fun f => f)
      have q0 := (g0.keep k1 (fun f => f)).keep k2 (fun f => f)
      by_cases e : i = 64
      · subst e
        rw [firstW_ge (by omega)]
        exact least_1e b1 w2 hT2 (by rw [q1.cell]; rfl)
      · exact least_s b1 b0 1 m i (.inl ⟨rfl, by omega⟩) hi w2 hT2 (by rw [q1.cell]; rfl) (by rw [q1.cell]; rfl) (fun w3 k3 => least_0 b0 m i hm hi w3 (hT2.keep k3 (fun f => f)) (by rw [(q0.keep k3 (fun f => f)).cell]; rfl))
  have HLL := Lib.hid HL
  clear HL h hT
  have e1 : ¬ ((i : Int) ≥ 16777216) := by omega
  have hm : max (i : Int) 0 = (i : Int) := by omega
  have e2 : decide ((i : Int) ≥ 16777216) = false := decide_eq_false e1
  have e3 : decide (16777216 ≤ i) = false := decide_eq_false (by omega)
  unfold ptr at *
  go_enter Tryz.func146, Tryz.ntmps146
  go_wp2_with (go_at_call 217; refine HLL.out.mono ?_; rintro e w' ⟨rfl, hk⟩; have HK := Lib.hid hk; clear hk)
  go_ret
  exact ⟨rfl, HK.out⟩
end Go.Proofs.YtkiikblpgppmkaaGreatDoor

namespace Go.Proofs.YtkiikblpgppmkaaGreatDoor
open Go Go.RowKit
set_option linter.unusedVariables false
set_option linter.unusedSimpArgs false

theorem hib_top {w0 w : World} {L : List Asr} {b m : Nat} (H : St w0 w L) (p : Nat) (hp : L[p]? = some (hibA b m)) (hm : m < 2 ^ 64) : ∃ x k n, St w0 w (L.set p (blkA b (setCs x k n) 316)) := by
  by_cases h0 : m = 0
  · subst h0
    refine ⟨0, nilV, 0, H.weaken p hp (fun G hG => hib_zero.1 hG)⟩
  · obtain ⟨G, h1, _, hup, _⟩ := H.opens p hp
    obtain ⟨c, g3, _, _, _, _, _, _, f3, _⟩ := hib_open h0 h1
    exact ⟨1, ptr c.b2, pop m, hup w (blkA b (setCs 1 (ptr c.b2) (pop m)) 316) (Keep.refl _ _) ⟨g3, .inl f3⟩⟩
theorem St.setRowAll {w0 w : World} {L : List Asr} (h : St w0 w L) (p : Nat) {b : Nat} {cs : Array Value} {t : TypeId} (hp : L[p]? = some (blkA b cs t)) (ds : Array Value) : St w0 (w.setRow b ds) (L.set p (blkA b ds t)) := by
  obtain ⟨G, h1, _, hup, _⟩ := h.opens p hp
  exact hup _ (blkA b ds t) ((Keep.refl w G).setRow (.inl h1.2) ds) ⟨setRow_heap w b cs ds t _ h1.1, .inl h1.2⟩
theorem zero_set : Tryz.zeroCells316 = setCs 0 nilV 0 := rfl
theorem zero_one : ∀ v ∈ Tryz.zeroCells316.toList, v.oneCell' = true := by
  have h : (Tryz.zeroCells316.toList.all (·.oneCell')) = true := by kernel_rfl
  exact List.all_eq_true.1 h
theorem hib_clear {w0 w : World} {L : List Asr} {b m : Nat} (H : St w0 w L) (p : Nat) (hp : L[p]? = some (hibA b m)) (hm : m < 2 ^ 64) :
    Calls Tryz.prog 124 #[ptr b] w (fun e w' => e = .returned (.tuple #[]) ∧ St w0 w' (L.set p (hibA b 0))) := by
  obtain ⟨x, k, n, H1⟩ := hib_top H p hp hm
  have hpl := (List.getElem?_eq_some_iff.1 hp).1
  have hb := H1.blk p (List.getElem?_set_self hpl)
  have HS := Lib.hid H1
  have HB := Lib.hid hb
  clear H hp hm H1 hb
  unfold ptr
  go_enter Tryz.func124, Tryz.ntmps124
  go_wp2_with fail
  have hr := run_storeCells_from (P := Tryz.prog) b 316 Tryz.zeroCells316.toList 0 _ w HB.out (by rw [zero_set]; rfl) zero_one
  rw [hr]
  have HF := Lib.hid (HS.out.setRowAll p (List.getElem?_set_self hpl) (List.take 0 (setCs x k n).toList ++ Tryz.zeroCells316.toList).toArray)
  clear hr
  go_wp2_with fail
  go_end0
  refine ⟨rfl, ?_⟩
  have h := HF.out
  rw [List.set_set] at h
  unfold hibA
  rw [if_pos rfl]
  exact h
end Go.Proofs.YtkiikblpgppmkaaGreatDoor
