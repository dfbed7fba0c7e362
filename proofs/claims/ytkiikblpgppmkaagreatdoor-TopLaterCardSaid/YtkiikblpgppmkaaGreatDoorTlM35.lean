/-
  The package expr: what an arena of five nodes looks like; Words.
-/
import Derived.Test.YtkiikblpgppmkaaGreatDoorTlM34
namespace Go.Proofs.YtkiikblpgppmkaaGreatDoor
open Go Go.RowKit
set_option linter.unusedVariables false
set_option linter.unusedSimpArgs false

structure ArP where
  n : Nat
  nc : Nat
  s : Nat
  sc : Nat
  k0 : Nat
  c0 : Nat
  k1 : Nat
  c1 : Nat
  k3 : Nat
  c3 : Nat
  k4 : Nat
  c4 : Nat
  x0 : Nat
  x1 : Nat
/-- The arena that rows.Build makes of one column: two sets, none of none, its complement, all of them. -/
structure ArR (w : World) (ar : Nat) (p : ArP) (m0 m1 : Nat) : Prop where
  a0 : w.cell? ⟨ar, 0, none⟩ = some (.slice (some ⟨p.n, 0, none⟩) 5 p.nc)
  a1 : w.cell? ⟨ar, 1, none⟩ = some (.slice (some ⟨p.s, 0, none⟩) 2 p.sc)
  n0 : w.cell? ⟨p.n, 0, none⟩ = some (.int .i64 1)
  n1 : w.cell? ⟨p.n, 1, none⟩ = some (.slice (some ⟨p.k0, 0, none⟩) 1 p.c0)
  n2 : w.cell? ⟨p.n, 2, none⟩ = some (.int .i64 1)
  n3 : w.cell? ⟨p.n, 3, none⟩ = some (.slice (some ⟨p.k1, 0, none⟩) 1 p.c1)
  n4 : w.cell? ⟨p.n, 4, none⟩ = some (.int .i64 3)
  n5 : w.cell? ⟨p.n, 5, none⟩ = some (.slice none 0 0)
  n6 : w.cell? ⟨p.n, 6, none⟩ = some (.int .i64 5)
  n7 : w.cell? ⟨p.n, 7, none⟩ = some (.slice (some ⟨p.k3, 0, none⟩) 1 p.c3)
  n8 : w.cell? ⟨p.n, 8, none⟩ = some (.int .i64 2)
  n9 : w.cell? ⟨p.n, 9, none⟩ = some (.slice (some ⟨p.k4, 0, none⟩) 3 p.c4)
  d0 : w.cell? ⟨p.k0, 0, none⟩ = some (.int .i64 0)
  d1 : w.cell? ⟨p.k1, 0, none⟩ = some (.int .i64 1)
  d3 : w.cell? ⟨p.k3, 0, none⟩ = some (.int .i64 2)
  d40 : w.cell? ⟨p.k4, 0, none⟩ = some (.int .i64 0)
  d41 : w.cell? ⟨p.k4, 1, none⟩ = some (.int .i64 1)
  d42 : w.cell? ⟨p.k4, 2, none⟩ = some (.int .i64 3)
  s0 : w.cell? ⟨p.s, 0, none⟩ = some (.pointer (some ⟨p.x0, 0, none⟩))
  s1 : w.cell? ⟨p.s, 1, none⟩ = some (.pointer (some ⟨p.x1, 0, none⟩))
  h0 : RdHib w p.x0 m0
  h1 : RdHib w p.x1 m1
theorem ArR.keep {w w' : World} {ar : Nat} {p : ArP} {m0 m1 : Nat} (h : ArR w ar p m0 m1) (hk : Keep w w' Nope) : ArR w' ar p m0 m1 :=
  ⟨hk.cell h.a0 (fun f => f), hk.cell h.a1 (fun f => f), hk.cell h.n0 (fun f => f), hk.cell h.n1 (fun f => f), hk.cell h.n2 (fun f => f), hk.cell h.n3 (fun f => f), hk.cell h.n4 (fun f => f), hk.cell h.n5 (fun f => f), hk.cell h.n6 (fun f => f), hk.cell h.n7 (fun f => f), hk.cell h.n8 (fun f => f), hk.cell h.n9 (fun f => f), hk.cell h.d0 (fun f => f), hk.cell h.d1 (fun f => f), hk.cell h.d3 (fun f => f), hk.cell h.d40 (fun f => f), hk.cell h.d41 (fun f => f), hk.cell h.d42 (fun f => f), hk.cell h.s0 (fun f => f), hk.cell h.s1 (fun f => f), h.h0.keep hk, h.h1.keep hk⟩
theorem wordAt_lt {m l : Nat} (hm : m < 2 ^ 64) : wordAt m l < 2 ^ 64 := by
  unfold wordAt
  split
  · exact hm
  · split <;> decide
/-- The words of the five nodes. -/
def roomA (rg : Nat) (a b c d e : Int) : Asr := blkA rg #[.int .u64 a, .int .u64 b, .int .u64 c, .int .u64 d, .int .u64 e] 273
def needA (ng nc : Nat) : Asr := slA 3 1 (.slice (some ⟨ng, 0, none⟩) 5 nc) 5 (intsN [0, 1, 2, 3, 4])
theorem St.need {w0 w : World} {L : List Asr} {ng nc : Nat} (H : St w0 w L) (i : Nat) (hi : L[i]? = some (needA ng nc)) (j : Nat) (hj : j < 5) : w.cell? ⟨ng, j, none⟩ = some (.int .i64 (j : Nat)) := by
  obtain ⟨g, hg, _, _, hc, _⟩ := H.store i hi (by decide)
  cases hg
  rw [hc j (by omega)]
  match j, hj with
  | 0, _ => rfl
  | 1, _ => rfl
  | 2, _ => rfl
  | 3, _ => rfl
  | 4, _ => rfl
theorem St.room {w0 w : World} {L : List Asr} {rg : Nat} {a b c d e : Int} (H : St w0 w (roomA rg a b c d e :: L)) : (w.cell? ⟨rg, 0, none⟩ = some (.int .u64 a) ∧ w.cell? ⟨rg, 1, none⟩ = some (.int .u64 b) ∧ w.cell? ⟨rg, 2, none⟩ = some (.int .u64 c) ∧ w.cell? ⟨rg, 3, none⟩ = some (.int .u64 d) ∧ w.cell? ⟨rg, 4, none⟩ = some (.int .u64 e)) ∧ ∀ j, w.frozen? ⟨rg, j, none⟩ = false := by
  have hb := H.blk 0 rfl
  exact ⟨⟨by rw [hb.cell]; rfl, by rw [hb.cell]; rfl, by rw [hb.cell]; rfl, by rw [hb.cell]; rfl, by rw [hb.cell]; rfl⟩, fun j => hb.frozen j⟩
set_option maxRecDepth 100000 in
set_option maxHeartbeats 4000000 in
theorem ar_words {w0 w : World} {L : List Asr} {ar rg ng nc : Nat} {r0 r1 r2 r3 r4 : Int} {p : ArP} {m0 m1 : Nat} (H : St w0 w (roomA rg r0 r1 r2 r3 r4 :: needA ng nc :: L)) (hA : ArR w0 ar p m0 m1) (l : Nat) (hl : l < 4) :
    Calls Tryz.prog 213 #[ptr ar, .slice (some ⟨ng, 0, none⟩) 5 nc, .int .i64 (l : Nat), .int .i64 0, .slice (some ⟨rg, 0, none⟩) 5 5] w (fun e w' => e = .returned (.int .u64 ((wordAt m0 l &&& wordAt m1 l : Nat) : Int)) ∧ ∃ a b c d e, St w0 w' (roomA rg a b c d e :: needA ng nc :: L)) := by
  have HA := Lib.hid hA
  have HH := Lib.hid H
  have HW0 := Lib.hid (fun w' (hk : Keep w0 w' Nope) => hib_word p.x0 m0 l hl w' (hA.h0.keep hk))
  have HW1 := Lib.hid (fun w' (hk : Keep w0 w' Nope) => hib_word p.x1 m1 l hl w' (hA.h1.keep hk))
  have ht0 := wordAt_lt (l := l) hA.h0.1
  have ht1 := wordAt_lt (l := l) hA.h1.1
  obtain ⟨t0, e0⟩ : ∃ t, wordAt m0 l = t := ⟨_, rfl⟩
  obtain ⟨t1, e1⟩ : ∃ t, wordAt m1 l = t := ⟨_, rfl⟩
  rw [e0] at HW0 ht0 ⊢
  rw [e1] at HW1 ht1 ⊢
  obtain ⟨li, hli⟩ : ∃ li : Int, (l : Int) = li := ⟨_, rfl⟩
  rw [hli] at HW0 HW1 ⊢
  have HL := Lib.hid hli
  clear hA H e0 e1 hli
  unfold ptr at *
  go_enter Tryz.func213, Tryz.ntmps213
  go_wp2_with fail
  refine wp_loop_rounds 6 ?_
  rw [rounds_succ]
  have hq : w.cell? ⟨ng, 0, none⟩ = some (.int .i64 0) := HH.out.need 1 rfl 0 (by decide)
  have ha := HA.out.keep (Keep.ofSt HH.out)
  have ha0 := ha.a0
  have hn0 := ha.n0
  have hn1 := ha.n1
  go_wp2_with fail
  have hk1 := (show Keep w (w.alloc (.cells #[.int .i64 1, .slice (some ⟨p.k0, 0, none⟩) 1 p.c0] 367)) Nope from (Keep.refl w Nope).alloc _)
  have hb1 := Blk.new w #[.int .i64 1, .slice (some ⟨p.k0, 0, none⟩) 1 p.c0] 367
  obtain ⟨nb, hnb⟩ : ∃ nb, w.heap.size = nb := ⟨_, rfl⟩
  obtain ⟨wa, hwa⟩ : ∃ wa, w.alloc (.cells #[.int .i64 1, .slice (some ⟨p.k0, 0, none⟩) 1 p.c0] 367) = wa := ⟨_, rfl⟩
  rw [hwa, hnb] at hb1
  rw [hwa] at hk1
  rw [hwa, hnb]
  replace ha := ha.keep hk1
  replace HH := Lib.hid (HH.out.keep hk1)
  have ha1 := ha.a1
  have hd := ha.d0
  have hs := ha.s0
  have hb2 : wa.cell? ⟨nb, 1, none⟩ = some (.slice (some ⟨p.k0, 0, none⟩) 1 p.c0) := by rw [hb1.cell]; rfl
  clear hk1 hb1 hwa hnb hq ha ha0 hn0 hn1
  refine wp_region_M (r := 15) (S := fun w' => w'.cell? ⟨ar, 1, none⟩ = some (.slice (some ⟨p.s, 0, none⟩) 2 p.sc) ∧ w'.cell? ⟨nb, 1, none⟩ = some (.slice (some ⟨p.k0, 0, none⟩) 1 p.c0) ∧ w'.cell? ⟨p.k0, 0, none⟩ = some (.int .i64 0) ∧ w'.cell? ⟨p.s, 0, none⟩ = some (.pointer (some ⟨p.x0, 0, none⟩))) (by kernel_rfl) ?_ (fun hHeld => ?_)
  · (try dsimp only); exact ⟨ha1, hb2, hd, hs⟩
  refine tkP 0 ?_; refine tkP 1 ?_; refine tkP 2 ?_; refine tkP 3 ?_; refine tkP 4 ?_; refine tkH 5 ?_; refine tkP 6 ?_; refine tkH 7 ?_; refine tkP 8 ?_; refine tkH 9 ?_; refine tkP 10 ?_; refine tkH 11 ?_; refine tkP 12 ?_; refine tkP 13 ?_; refine tkC 14 ?_
  intro K hK
  go_simp
  go_wp2_with ((go_at_call 255; refine (HW0.out _ (Keep.ofSt HH.out.drew)).mono ?_; rintro e v0 ⟨rfl, hk⟩; replace HH := Lib.hid (HH.out.drew.keep hk); have ha1 := hk.cell ha1 (fun f => f); have hb2 := hk.cell hb2 (fun f => f); have hd := hk.cell hd (fun f => f); have hs := hk.cell hs (fun f => f); clear hk; obtain ⟨⟨z0, z1, z2, z3, z4⟩, hz⟩ := HH.out.room; have y0 := hz 0))
  refine hK.out _ _ ?_ (fun hHeld => ?_)
  · (try dsimp only); exact ⟨ha1, hb2, hd, hs⟩
  clear hK K
  refine tkF 15 ?_
  intro K hK
  go_simp
  refine hK.out _ _ ?_
  clear hK K
  refine tkF 16 ?_
  intro K hK
  go_simp
  refine hK.out _ _ ?_
  clear hK K
  refine wpAnyM_done (by kernel_rfl) ?_ _
  clear hHeld ha1 hd hs hb2
  go_wp2_with fail
  replace HH := Lib.hid (show St w0 (v0.setCell ⟨rg, 0, none⟩ (.int .u64 (t0 : Nat))) (roomA rg ((t0 : Nat)) (r1) (r2) (r3) (r4) :: needA ng nc :: L) from HH.out.write 0 rfl 0 (.int .u64 (t0 : Nat)))
  obtain ⟨w1, hw⟩ : ∃ w2, v0.setCell ⟨rg, 0, none⟩ (.int .u64 (t0 : Nat)) = w2 := ⟨_, rfl⟩
  rw [hw] at HH ⊢
  clear hw z0 z1 z2 z3 z4 hz y0
  rw [rounds_succ]
  have hq : w1.cell? ⟨ng, 1, none⟩ = some (.int .i64 1) := HH.out.need 1 rfl 1 (by decide)
  have ha := HA.out.keep (Keep.ofSt HH.out)
  have ha0 := ha.a0
  have hn0 := ha.n2
  have hn1 := ha.n3
  go_wp2_with fail
  have hk1 := (show Keep w1 (w1.alloc (.cells #[.int .i64 1, .slice (some ⟨p.k1, 0, none⟩) 1 p.c1] 367)) Nope from (Keep.refl w1 Nope).alloc _)
  have hb1 := Blk.new w1 #[.int .i64 1, .slice (some ⟨p.k1, 0, none⟩) 1 p.c1] 367
  obtain ⟨nb, hnb⟩ : ∃ nb, w1.heap.size = nb := ⟨_, rfl⟩
  obtain ⟨wa, hwa⟩ : ∃ wa, w1.alloc (.cells #[.int .i64 1, .slice (some ⟨p.k1, 0, none⟩) 1 p.c1] 367) = wa := ⟨_, rfl⟩
  rw [hwa, hnb] at hb1
  rw [hwa] at hk1
  rw [hwa, hnb]
  replace ha := ha.keep hk1
  replace HH := Lib.hid (HH.out.keep hk1)
  have ha1 := ha.a1
  have hd := ha.d1
  have hs := ha.s1
  have hb2 : wa.cell? ⟨nb, 1, none⟩ = some (.slice (some ⟨p.k1, 0, none⟩) 1 p.c1) := by rw [hb1.cell]; rfl
  clear hk1 hb1 hwa hnb hq ha ha0 hn0 hn1
  refine wp_region_M (r := 15) (S := fun w' => w'.cell? ⟨ar, 1, none⟩ = some (.slice (some ⟨p.s, 0, none⟩) 2 p.sc) ∧ w'.cell? ⟨nb, 1, none⟩ = some (.slice (some ⟨p.k1, 0, none⟩) 1 p.c1) ∧ w'.cell? ⟨p.k1, 0, none⟩ = some (.int .i64 1) ∧ w'.cell? ⟨p.s, 1, none⟩ = some (.pointer (some ⟨p.x1, 0, none⟩))) (by kernel_rfl) ?_ (fun hHeld => ?_)
  · (try dsimp only); exact ⟨ha1, hb2, hd, hs⟩
  refine tkP 0 ?_; refine tkP 1 ?_; refine tkP 2 ?_; refine tkP 3 ?_; refine tkP 4 ?_; refine tkH 5 ?_; refine tkP 6 ?_; refine tkH 7 ?_; refine tkP 8 ?_; refine tkH 9 ?_; refine tkP 10 ?_; refine tkH 11 ?_; refine tkP 12 ?_; refine tkP 13 ?_; refine tkC 14 ?_
  intro K hK
  go_simp
  go_wp2_with ((go_at_call 255; refine (HW1.out _ (Keep.ofSt HH.out.drew)).mono ?_; rintro e v1 ⟨rfl, hk⟩; replace HH := Lib.hid (HH.out.drew.keep hk); have ha1 := hk.cell ha1 (fun f => f); have hb2 := hk.cell hb2 (fun f => f); have hd := hk.cell hd (fun f => f); have hs := hk.cell hs (fun f => f); clear hk; obtain ⟨⟨z0, z1, z2, z3, z4⟩, hz⟩ := HH.out.room; have y1 := hz 1))
  refine hK.out _ _ ?_ (fun hHeld => ?_)
  · (try dsimp only); exact ⟨ha1, hb2, hd, hs⟩
  clear hK K
  refine tkF 15 ?_
  intro K hK
  go_simp
  refine hK.out _ _ ?_
  clear hK K
  refine tkF 16 ?_
  intro K hK
  go_simp
  refine hK.out _ _ ?_
  clear hK K
  refine wpAnyM_done (by kernel_rfl) ?_ _
  clear hHeld ha1 hd hs hb2
  go_wp2_with fail
  replace HH := Lib.hid (show St w0 (v1.setCell ⟨rg, 1, none⟩ (.int .u64 (t1 : Nat))) (roomA rg ((t0 : Nat)) ((t1 : Nat)) (r2) (r3) (r4) :: needA ng nc :: L) from HH.out.write 0 rfl 1 (.int .u64 (t1 : Nat)))
  obtain ⟨w2, hw⟩ : ∃ w2, v1.setCell ⟨rg, 1, none⟩ (.int .u64 (t1 : Nat)) = w2 := ⟨_, rfl⟩
  rw [hw] at HH ⊢
  clear hw z0 z1 z2 z3 z4 hz y1
  rw [rounds_succ]
  have hq : w2.cell? ⟨ng, 2, none⟩ = some (.int .i64 2) := HH.out.need 1 rfl 2 (by decide)
  have ha := HA.out.keep (Keep.ofSt HH.out)
  have ha0 := ha.a0
  have hn0 := ha.n4
  have hn1 := ha.n5
  go_wp2_with fail
  have hk1 := (show Keep w2 ((w2.alloc (.cells #[.int .i64 3, .slice none 0 0] 367)).alloc (.cells #[.int .u64 0, .int .u64 0, .int .u64 0, .int .u64 0, .int .u64 0, .int .u64 0, .int .u64 0, .int .u64 0, .int .u64 0, .int .u64 0, .int .u64 0, .int .u64 0, .int .u64 0, .int .u64 0, .int .u64 0, .int .u64 0, .int .u64 0, .int .u64 0, .int .u64 0, .int .u64 0, .int .u64 0, .int .u64 0, .int .u64 0, .int .u64 0, .int .u64 0, .int .u64 0, .int .u64 0, .int .u64 0, .int .u64 0, .int .u64 0, .int .u64 0, .int .u64 0, .int .u64 0, .int .u64 0, .int .u64 0, .int .u64 0, .int .u64 0, .int .u64 0, .int .u64 0, .int .u64 0, .int .u64 0, .int .u64 0, .int .u64 0, .int .u64 0, .int .u64 0, .int .u64 0, .int .u64 0, .int .u64 0, .int .u64 0, .int .u64 0, .int .u64 0, .int .u64 0, .int .u64 0, .int .u64 0, .int .u64 0, .int .u64 0, .int .u64 0, .int .u64 0, .int .u64 0, .int .u64 0, .int .u64 0, .int .u64 0, .int .u64 0, .int .u64 0] 369)) Nope from ((Keep.refl w2 Nope).alloc _).alloc _)
  have hb1 := (Blk.new w2 #[.int .i64 3, .slice none 0 0] 367).keep ((Keep.refl _ Nope).alloc (.cells #[.int .u64 0, .int .u64 0, .int .u64 0, .int .u64 0, .int .u64 0, .int .u64 0, .int .u64 0, .int .u64 0, .int .u64 0, .int .u64 0, .int .u64 0, .int .u64 0, .int .u64 0, .int .u64 0, .int .u64 0, .int .u64 0, .int .u64 0, .int .u64 0, .int .u64 0, .int .u64 0, .int .u64 0, .int .u64 0, .int .u64 0, .int .u64 0, .int .u64 0, .int .u64 0, .int .u64 0, .int .u64 0, .int .u64 0, .int .u64 0, .int .u64 0, .int .u64 0, .int .u64 0, .int .u64 0, .int .u64 0, .int .u64 0, .int .u64 0, .int .u64 0, .int .u64 0, .int .u64 0, .int .u64 0, .int .u64 0, .int .u64 0, .int .u64 0, .int .u64 0, .int .u64 0, .int .u64 0, .int .u64 0, .int .u64 0, .int .u64 0, .int .u64 0, .int .u64 0, .int .u64 0, .int .u64 0, .int .u64 0, .int .u64 0, .int .u64 0, .int .u64 0, .int .u64 0, .int .u64 0, .int .u64 0, .int .u64 0, .int .u64 0, .int .u64 0] 369)) (fun f => f)
  obtain ⟨nb2, hnb⟩ : ∃ nb, w2.heap.size = nb := ⟨_, rfl⟩
  obtain ⟨wa2, hwa⟩ : ∃ wa, (w2.alloc (.cells #[.int .i64 3, .slice none 0 0] 367)).alloc (.cells #[.int .u64 0, .int .u64 0, .int .u64 0, .int .u64 0, .int .u64 0, .int .u64 0, .int .u64 0, .int .u64 0, .int .u64 0, .int .u64 0, .int .u64 0, .int .u64 0, .int .u64 0, .int .u64 0, .int .u64 0, .int .u64 0, .int .u64 0, .int .u64 0, .int .u64 0, .int .u64 0, .int .u64 0, .int .u64 0, .int .u64 0, .int .u64 0, .int .u64 0, .int .u64 0, .int .u64 0, .int .u64 0, .int .u64 0, .int .u64 0, .int .u64 0, .int .u64 0, .int .u64 0, .int .u64 0, .int .u64 0, .int .u64 0, .int .u64 0, .int .u64 0, .int .u64 0, .int .u64 0, .int .u64 0, .int .u64 0, .int .u64 0, .int .u64 0, .int .u64 0, .int .u64 0, .int .u64 0, .int .u64 0, .int .u64 0, .int .u64 0, .int .u64 0, .int .u64 0, .int .u64 0, .int .u64 0, .int .u64 0, .int .u64 0, .int .u64 0, .int .u64 0, .int .u64 0, .int .u64 0, .int .u64 0, .int .u64 0, .int .u64 0, .int .u64 0] 369) = wa := ⟨_, rfl⟩
  rw [hwa, hnb] at hb1
  rw [hwa] at hk1
  rw [hwa, hnb]
  replace HH := Lib.hid (HH.out.keep hk1)
  have hb2 : wa2.cell? ⟨nb2, 1, none⟩ = some (.slice none 0 0) := by rw [hb1.cell]; rfl
  obtain ⟨⟨z0, z1, z2, z3, z4⟩, hz⟩ := HH.out.room
  have y2 := hz 2
  clear hk1 hb1 hwa hnb hq ha ha0 hn0 hn1
  refine wp_loop_rounds 1 ?_
  rw [rounds_succ]
  go_wp2_with (go_at_call 256; refine (join_none _ _).mono ?_; rintro e v2 ⟨rfl, rfl⟩)
  replace HH := Lib.hid (show St w0 (wa2.setCell ⟨rg, 2, none⟩ (.int .u64 0)) (roomA rg (t0 : Nat) (t1 : Nat) 0 r3 r4 :: needA ng nc :: L) from HH.out.write 0 rfl 2 (.int .u64 0))
  obtain ⟨w3, hw⟩ : ∃ w3, wa2.setCell ⟨rg, 2, none⟩ (.int .u64 0) = w3 := ⟨_, rfl⟩
  rw [hw] at HH ⊢
  clear hw z0 z1 z2 z3 z4 hz y2 hb2
  rw [rounds_succ]
  have hq : w3.cell? ⟨ng, 3, none⟩ = some (.int .i64 3) := HH.out.need 1 rfl 3 (by decide)
  have ha := HA.out.keep (Keep.ofSt HH.out)
  have ha0 := ha.a0
  have hn0 := ha.n6
  have hn1 := ha.n7
  have hk1 := (show Keep w3 (w3.alloc (.cells #[.int .i64 5, .slice (some ⟨p.k3, 0, none⟩) 1 p.c3] 367)) Nope from (Keep.refl w3 Nope).alloc _)
  have hd := (ha.keep hk1).d3
  have HH3 := Lib.hid (HH.out.keep hk1)
  obtain ⟨⟨z0, z1, z2, z3, z4⟩, hz⟩ := HH3.out.room
  have y3 := hz 3
  have hs : IntKind.u64.signed = false := rfl
  have hx := xor_max0
  have hgo : ∀ (w4 : World), St w0 w4 (roomA rg (t0 : Nat) (t1 : Nat) 0 18446744073709551615 r4 :: needA ng nc :: L) → True := fun _ _ => trivial
  clear hk1 hgo
  by_cases hl0 : l = 0
  · have hli : li = 0 := by have := HL.out; omega
    subst hli
    go_wp2_with fail
    replace HH := Lib.hid (show St w0 ((w3.alloc (.cells #[.int .i64 5, .slice (some ⟨p.k3, 0, none⟩) 1 p.c3] 367)).setCell ⟨rg, 3, none⟩ (.int .u64 18446744073709551615)) (roomA rg (t0 : Nat) (t1 : Nat) 0 18446744073709551615 r4 :: needA ng nc :: L) from HH3.out.write 0 rfl 3 (.int .u64 18446744073709551615))
    obtain ⟨nb3, hnb3⟩ : ∃ nb, w3.heap.size = nb := ⟨_, rfl⟩
    rw [hnb3]
    obtain ⟨w4, hw⟩ : ∃ w4, (w3.alloc (.cells #[.int .i64 5, .slice (some ⟨p.k3, 0, none⟩) 1 p.c3] 367)).setCell ⟨rg, 3, none⟩ (.int .u64 18446744073709551615) = w4 := ⟨_, rfl⟩
    rw [hw] at HH ⊢
    clear hw z0 z1 z2 z3 z4 hz y3 hnb3 HH3 hs hx hd hq ha ha0 hn0 hn1
    rw [rounds_succ]
    have hq : w4.cell? ⟨ng, 4, none⟩ = some (.int .i64 4) := HH.out.need 1 rfl 4 (by decide)
    have ha := HA.out.keep (Keep.ofSt HH.out)
    have ha0 := ha.a0
    have hn0 := ha.n8
    have hn1 := ha.n9
    go_wp2_with fail
    have hb2 := HH.out.box2 #[.int .i64 2, .slice (some ⟨p.k4, 0, none⟩) 3 p.c4] #[.int .u64 0, .int .u64 0, .int .u64 0, .int .u64 0, .int .u64 0, .int .u64 0, .int .u64 0, .int .u64 0, .int .u64 0, .int .u64 0, .int .u64 0, .int .u64 0, .int .u64 0, .int .u64 0, .int .u64 0, .int .u64 0, .int .u64 0, .int .u64 0, .int .u64 0, .int .u64 0, .int .u64 0, .int .u64 0, .int .u64 0, .int .u64 0, .int .u64 0, .int .u64 0, .int .u64 0, .int .u64 0, .int .u64 0, .int .u64 0, .int .u64 0, .int .u64 0, .int .u64 0, .int .u64 0, .int .u64 0, .int .u64 0, .int .u64 0, .int .u64 0, .int .u64 0, .int .u64 0, .int .u64 0, .int .u64 0, .int .u64 0, .int .u64 0, .int .u64 0, .int .u64 0, .int .u64 0, .int .u64 0, .int .u64 0, .int .u64 0, .int .u64 0, .int .u64 0, .int .u64 0, .int .u64 0, .int .u64 0, .int .u64 0, .int .u64 0, .int .u64 0, .int .u64 0, .int .u64 0, .int .u64 0, .int .u64 0, .int .u64 0, .int .u64 0] 367 369
    obtain ⟨nb4, hnb4⟩ : ∃ nb, w4.heap.size = nb := ⟨_, rfl⟩
    obtain ⟨lb, hlb⟩ : ∃ lb, nb4 + 1 = lb := ⟨_, rfl⟩
    obtain ⟨w5, hw⟩ : ∃ w5, (w4.alloc (.cells #[.int .i64 2, .slice (some ⟨p.k4, 0, none⟩) 3 p.c4] 367)).alloc (.cells #[.int .u64 0, .int .u64 0, .int .u64 0, .int .u64 0, .int .u64 0, .int .u64 0, .int .u64 0, .int .u64 0, .int .u64 0, .int .u64 0, .int .u64 0, .int .u64 0, .int .u64 0, .int .u64 0, .int .u64 0, .int .u64 0, .int .u64 0, .int .u64 0, .int .u64 0, .int .u64 0, .int .u64 0, .int .u64 0, .int .u64 0, .int .u64 0, .int .u64 0, .int .u64 0, .int .u64 0, .int .u64 0, .int .u64 0, .int .u64 0, .int .u64 0, .int .u64 0, .int .u64 0, .int .u64 0, .int .u64 0, .int .u64 0, .int .u64 0, .int .u64 0, .int .u64 0, .int .u64 0, .int .u64 0, .int .u64 0, .int .u64 0, .int .u64 0, .int .u64 0, .int .u64 0, .int .u64 0, .int .u64 0, .int .u64 0, .int .u64 0, .int .u64 0, .int .u64 0, .int .u64 0, .int .u64 0, .int .u64 0, .int .u64 0, .int .u64 0, .int .u64 0, .int .u64 0, .int .u64 0, .int .u64 0, .int .u64 0, .int .u64 0, .int .u64 0] 369) = w5 := ⟨_, rfl⟩
    rw [hw, hnb4, hlb] at hb2
    rw [hw, hnb4, hlb]
    have HH5 := Lib.hid hb2
    clear hw hnb4 hlb hq ha ha0 hn0 hn1 hb2
    refine wp_loop_rounds 4 ?_
    rw [rounds_succ]
    have hd : w5.cell? ⟨p.k4, 0, none⟩ = some (.int .i64 0) := (HA.out.keep (Keep.ofSt HH5.out)).d40
    have hl1 : w5.cell? ⟨lb, 0, none⟩ = some (.int .u64 0) := by rw [(HH5.out.blk 0 rfl).cell]; rfl
    have hl2 : w5.frozen? ⟨lb, 0, none⟩ = false := (HH5.out.blk 0 rfl).frozen 0
    obtain ⟨⟨z0, z1, z2, z3, z4⟩, hz⟩ := HH5.out.rest.rest.room
    go_wp2_with fail
    replace HH5 := Lib.hid (HH5.out.write 0 rfl 0 (.int .u64 (t0 : Nat)))
    obtain ⟨w6, hw⟩ : ∃ w2, w5.setCell ⟨lb, 0, none⟩ (.int .u64 (t0 : Nat)) = w2 := ⟨_, rfl⟩
    rw [hw] at HH5 ⊢
    clear hw z0 z1 z2 z3 z4 hz hd hl1 hl2
    rw [rounds_succ]
    have hd : w6.cell? ⟨p.k4, 1, none⟩ = some (.int .i64 1) := (HA.out.keep (Keep.ofSt HH5.out)).d41
    have hl1 : w6.cell? ⟨lb, 1, none⟩ = some (.int .u64 0) := by rw [(HH5.out.blk 0 rfl).cell]; rfl
    have hl2 : w6.frozen? ⟨lb, 1, none⟩ = false := (HH5.out.blk 0 rfl).frozen 1
    obtain ⟨⟨z0, z1, z2, z3, z4⟩, hz⟩ := HH5.out.rest.rest.room
    go_wp2_with fail
    replace HH5 := Lib.hid (HH5.out.write 0 rfl 1 (.int .u64 (t1 : Nat)))
    obtain ⟨w7, hw⟩ : ∃ w2, w6.setCell ⟨lb, 1, none⟩ (.int .u64 (t1 : Nat)) = w2 := ⟨_, rfl⟩
    rw [hw] at HH5 ⊢
    clear hw z0 z1 z2 z3 z4 hz hd hl1 hl2
    rw [rounds_succ]
    have hd : w7.cell? ⟨p.k4, 2, none⟩ = some (.int .i64 3) := (HA.out.keep (Keep.ofSt HH5.out)).d42
    have hl1 : w7.cell? ⟨lb, 2, none⟩ = some (.int .u64 0) := by rw [(HH5.out.blk 0 rfl).cell]; rfl
    have hl2 : w7.frozen? ⟨lb, 2, none⟩ = false := (HH5.out.blk 0 rfl).frozen 2
    obtain ⟨⟨z0, z1, z2, z3, z4⟩, hz⟩ := HH5.out.rest.rest.room
    go_wp2_with fail
    replace HH5 := Lib.hid (HH5.out.write 0 rfl 2 (.int .u64 18446744073709551615))
    obtain ⟨w8, hw⟩ : ∃ w2, w7.setCell ⟨lb, 2, none⟩ (.int .u64 18446744073709551615) = w2 := ⟨_, rfl⟩
    rw [hw] at HH5 ⊢
    clear hw z0 z1 z2 z3 z4 hz hd hl1 hl2
    rw [rounds_succ]
    have hj0 : w8.cell? ⟨lb, 0, none⟩ = some (.int .u64 (t0 : Nat)) := by rw [(HH5.out.blk 0 rfl).cell]; rfl
    have hj1 : w8.cell? ⟨lb, 1, none⟩ = some (.int .u64 (t1 : Nat)) := by rw [(HH5.out.blk 0 rfl).cell]; rfl
    have hj2 : w8.cell? ⟨lb, 2, none⟩ = some (.int .u64 18446744073709551615) := by rw [(HH5.out.blk 0 rfl).cell]; rfl
    have hb2 : w8.cell? ⟨nb4, 1, none⟩ = some (.slice (some ⟨p.k4, 0, none⟩) 3 p.c4) := by rw [(HH5.out.blk 1 rfl).cell]; rfl
    obtain ⟨⟨z0, z1, z2, z3, z4⟩, hz⟩ := HH5.out.rest.rest.room
    have y4 := hz 4
    go_wp2_with (go_at_call 256; refine (join_and lb t0 t1 ht0 ht1 _ hj0 hj1 hj2).mono ?_; rintro e v4 ⟨rfl, rfl⟩)
    obtain ⟨t2, ht2⟩ : ∃ t, t0 &&& t1 = t := ⟨_, rfl⟩
    rw [ht2]
    replace HH := Lib.hid (show St w0 (w8.setCell ⟨rg, 4, none⟩ (.int .u64 (t2 : Nat))) (roomA rg (t0 : Nat) (t1 : Nat) 0 18446744073709551615 (t2 : Nat) :: needA ng nc :: L) from HH5.out.rest.rest.write 0 rfl 4 (.int .u64 (t2 : Nat)))
    obtain ⟨w9, hw⟩ : ∃ w2, w8.setCell ⟨rg, 4, none⟩ (.int .u64 (t2 : Nat)) = w2 := ⟨_, rfl⟩
    rw [hw] at HH ⊢
    clear hw z0 z1 z2 z3 z4 hz hj0 hj1 hj2 hb2 y4 HH5
    rw [rounds_succ]
    have hq : w9.cell? ⟨ng, 4, none⟩ = some (.int .i64 4) := HH.out.need 1 rfl 4 (by decide)
    obtain ⟨⟨z0, z1, z2, z3, z4⟩, hz⟩ := HH.out.room
    go_wp2_with fail
    go_ret
    exact ⟨by rw [ht2]; rfl, _, _, _, _, _, HH.out⟩
  · have hg : decide (li > 0) = true := decide_eq_true (by have := HL.out; omega)
    go_wp2_with fail
    clear hg
    replace HH := Lib.hid (show St w0 ((w3.alloc (.cells #[.int .i64 5, .slice (some ⟨p.k3, 0, none⟩) 1 p.c3] 367)).setCell ⟨rg, 3, none⟩ (.int .u64 18446744073709551615)) (roomA rg (t0 : Nat) (t1 : Nat) 0 18446744073709551615 r4 :: needA ng nc :: L) from HH3.out.write 0 rfl 3 (.int .u64 18446744073709551615))
    obtain ⟨nb3, hnb3⟩ : ∃ nb, w3.heap.size = nb := ⟨_, rfl⟩
    rw [hnb3]
    obtain ⟨w4, hw⟩ : ∃ w4, (w3.alloc (.cells #[.int .i64 5, .slice (some ⟨p.k3, 0, none⟩) 1 p.c3] 367)).setCell ⟨rg, 3, none⟩ (.int .u64 18446744073709551615) = w4 := ⟨_, rfl⟩
    rw [hw] at HH ⊢
    clear hw z0 z1 z2 z3 z4 hz y3 hnb3 HH3 hs hx hd hq ha ha0 hn0 hn1
    rw [rounds_succ]
    have hq : w4.cell? ⟨ng, 4, none⟩ = some (.int .i64 4) := HH.out.need 1 rfl 4 (by decide)
    have ha := HA.out.keep (Keep.ofSt HH.out)
    have ha0 := ha.a0
    have hn0 := ha.n8
    have hn1 := ha.n9
    go_wp2_with fail
    have hb2 := HH.out.box2 #[.int .i64 2, .slice (some ⟨p.k4, 0, none⟩) 3 p.c4] #[.int .u64 0, .int .u64 0, .int .u64 0, .int .u64 0, .int .u64 0, .int .u64 0, .int .u64 0, .int .u64 0, .int .u64 0, .int .u64 0, .int .u64 0, .int .u64 0, .int .u64 0, .int .u64 0, .int .u64 0, .int .u64 0, .int .u64 0, .int .u64 0, .int .u64 0, .int .u64 0, .int .u64 0, .int .u64 0, .int .u64 0, .int .u64 0, .int .u64 0, .int .u64 0, .int .u64 0, .int .u64 0, .int .u64 0, .int .u64 0, .int .u64 0, .int .u64 0, .int .u64 0, .int .u64 0, .int .u64 0, .int .u64 0, .int .u64 0, .int .u64 0, .int .u64 0, .int .u64 0, .int .u64 0, .int .u64 0, .int .u64 0, .int .u64 0, .int .u64 0, .int .u64 0, .int .u64 0, .int .u64 0, .int .u64 0, .int .u64 0, .int .u64 0, .int .u64 0, .int .u64 0, .int .u64 0, .int .u64 0, .int .u64 0, .int .u64 0, .int .u64 0, .int .u64 0, .int .u64 0, .int .u64 0, .int .u64 0, .int .u64 0, .int .u64 0] 367 369
    obtain ⟨nb4, hnb4⟩ : ∃ nb, w4.heap.size = nb := ⟨_, rfl⟩
    obtain ⟨lb, hlb⟩ : ∃ lb, nb4 + 1 = lb := ⟨_, rfl⟩
    obtain ⟨w5, hw⟩ : ∃ w5, (w4.alloc (.cells #[.int .i64 2, .slice (some ⟨p.k4, 0, none⟩) 3 p.c4] 367)).alloc (.cells #[.int .u64 0, .int .u64 0, .int .u64 0, .int .u64 0, .int .u64 0, .int .u64 0, .int .u64 0, .int .u64 0, .int .u64 0, .int .u64 0, .int .u64 0, .int .u64 0, .int .u64 0, .int .u64 0, .int .u64 0, .int .u64 0, .int .u64 0, .int .u64 0, .int .u64 0, .int .u64 0, .int .u64 0, .int .u64 0, .int .u64 0, .int .u64 0, .int .u64 0, .int .u64 0, .int .u64 0, .int .u64 0, .int .u64 0, .int .u64 0, .int .u64 0, .int .u64 0, .int .u64 0, .int .u64 0, .int .u64 0, .int .u64 0, .int .u64 0, .int .u64 0, .int .u64 0, .int .u64 0, .int .u64 0, .int .u64 0, .int .u64 0, .int .u64 0, .int .u64 0, .int .u64 0, .int .u64 0, .int .u64 0, .int .u64 0, .int .u64 0, .int .u64 0, .int .u64 0, .int .u64 0, .int .u64 0, .int .u64 0, .int .u64 0, .int .u64 0, .int .u64 0, .int .u64 0, .int .u64 0, .int .u64 0, .int .u64 0, .int .u64 0, .int .u64 0] 369) = w5 := ⟨_, rfl⟩
    rw [hw, hnb4, hlb] at hb2
    rw [hw, hnb4, hlb]
    have HH5 := Lib.hid hb2
    clear hw hnb4 hlb hq ha ha0 hn0 hn1 hb2
    refine wp_loop_rounds 4 ?_
    rw [rounds_succ]
    have hd : w5.cell? ⟨p.k4, 0, none⟩ = some (.int .i64 0) := (HA.out.keep (Keep.ofSt HH5.out)).d40
    have hl1 : w5.cell? ⟨lb, 0, none⟩ = some (.int .u64 0) := by rw [(HH5.out.blk 0 rfl).cell]; rfl
    have hl2 : w5.frozen? ⟨lb, 0, none⟩ = false := (HH5.out.blk 0 rfl).frozen 0
    obtain ⟨⟨z0, z1, z2, z3, z4⟩, hz⟩ := HH5.out.rest.rest.room
    go_wp2_with fail
    replace HH5 := Lib.hid (HH5.out.write 0 rfl 0 (.int .u64 (t0 : Nat)))
    obtain ⟨w6, hw⟩ : ∃ w2, w5.setCell ⟨lb, 0, none⟩ (.int .u64 (t0 : Nat)) = w2 := ⟨_, rfl⟩
    rw [hw] at HH5 ⊢
    clear hw z0 z1 z2 z3 z4 hz hd hl1 hl2
    rw [rounds_succ]
    have hd : w6.cell? ⟨p.k4, 1, none⟩ = some (.int .i64 1) := (HA.out.keep (Keep.ofSt HH5.out)).d41
    have hl1 : w6.cell? ⟨lb, 1, none⟩ = some (.int .u64 0) := by rw [(HH5.out.blk 0 rfl).cell]; rfl
    have hl2 : w6.frozen? ⟨lb, 1, none⟩ = false := (HH5.out.blk 0 rfl).frozen 1
    obtain ⟨⟨z0, z1, z2, z3, z4⟩, hz⟩ := HH5.out.rest.rest.room
    go_wp2_with fail
    replace HH5 := Lib.hid (HH5.out.write 0 rfl 1 (.int .u64 (t1 : Nat)))
    obtain ⟨w7, hw⟩ : ∃ w2, w6.setCell ⟨lb, 1, none⟩ (.int .u64 (t1 : Nat)) = w2 := ⟨_, rfl⟩
    rw [hw] at HH5 ⊢
    clear hw z0 z1 z2 z3 z4 hz hd hl1 hl2
    rw [rounds_succ]
    have hd : w7.cell? ⟨p.k4, 2, none⟩ = some (.int .i64 3) := (HA.out.keep (Keep.ofSt HH5.out)).d42
    have hl1 : w7.cell? ⟨lb, 2, none⟩ = some (.int .u64 0) := by rw [(HH5.out.blk 0 rfl).cell]; rfl
    have hl2 : w7.frozen? ⟨lb, 2, none⟩ = false := (HH5.out.blk 0 rfl).frozen 2
    obtain ⟨⟨z0, z1, z2, z3, z4⟩, hz⟩ := HH5.out.rest.rest.room
    go_wp2_with fail
    replace HH5 := Lib.hid (HH5.out.write 0 rfl 2 (.int .u64 18446744073709551615))
    obtain ⟨w8, hw⟩ : ∃ w2, w7.setCell ⟨lb, 2, none⟩ (.int .u64 18446744073709551615) = w2 := ⟨_, rfl⟩
    rw [hw] at HH5 ⊢
    clear hw z0 z1 z2 z3 z4 hz hd hl1 hl2
    rw [rounds_succ]
    have hj0 : w8.cell? ⟨lb, 0, none⟩ = some (.int .u64 (t0 : Nat)) := by rw [(HH5.out.blk 0 rfl).cell]; rfl
    have hj1 : w8.cell? ⟨lb, 1, none⟩ = some (.int .u64 (t1 : Nat)) := by rw [(HH5.out.blk 0 rfl).cell]; rfl
    have hj2 : w8.cell? ⟨lb, 2, none⟩ = some (.int .u64 18446744073709551615) := by rw [(HH5.out.blk 0 rfl).cell]; rfl
    have hb2 : w8.cell? ⟨nb4, 1, none⟩ = some (.slice (some ⟨p.k4, 0, none⟩) 3 p.c4) := by rw [(HH5.out.blk 1 rfl).cell]; rfl
    obtain ⟨⟨z0, z1, z2, z3, z4⟩, hz⟩ := HH5.out.rest.rest.room
    have y4 := hz 4
    go_wp2_with (go_at_call 256; refine (join_and lb t0 t1 ht0 ht1 _ hj0 hj1 hj2).mono ?_; rintro e v4 ⟨rfl, rfl⟩)
    obtain ⟨t2, ht2⟩ : ∃ t, t0 &&& t1 = t := ⟨_, rfl⟩
    rw [ht2]
    replace HH := Lib.hid (show St w0 (w8.setCell ⟨rg, 4, none⟩ (.int .u64 (t2 : Nat))) (roomA rg (t0 : Nat) (t1 : Nat) 0 18446744073709551615 (t2 : Nat) :: needA ng nc :: L) from HH5.out.rest.rest.write 0 rfl 4 (.int .u64 (t2 : Nat)))
    obtain ⟨w9, hw⟩ : ∃ w2, w8.setCell ⟨rg, 4, none⟩ (.int .u64 (t2 : Nat)) = w2 := ⟨_, rfl⟩
    rw [hw] at HH ⊢
    clear hw z0 z1 z2 z3 z4 hz hj0 hj1 hj2 hb2 y4 HH5
    rw [rounds_succ]
    have hq : w9.cell? ⟨ng, 4, none⟩ = some (.int .i64 4) := HH.out.need 1 rfl 4 (by decide)
    obtain ⟨⟨z0, z1, z2, z3, z4⟩, hz⟩ := HH.out.room
    go_wp2_with fail
    go_ret
    exact ⟨by rw [ht2]; rfl, _, _, _, _, _, HH.out⟩
end Go.Proofs.YtkiikblpgppmkaaGreatDoor
