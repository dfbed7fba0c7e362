/-
  LazyOks, walked: which ops may be is as the document says.
-/
import Derived.Test.YtnadfefjmoibeaaLazyLaws
namespace Go.Proofs.Ytnadfefjmoibeaa
open Go Go.RowKit
set_option maxHeartbeats 4000000 in
theorem lazyOks_no (o : OpV) (w : World) (hok : okOp o = false) : Calls Try.prog 6 #[o.val] w (RetTrue w) := by
  have HA := Lib.hid (op_ok o)
  have HR := Lib.hid (ref_opok o)
  have HL := Lib.hid (fun w => lit_op w o)
  rw [hok] at HA HR
  have HOK := Lib.hid (show [o].any (fun o => !okOp o) = !false by simp [hok])
  clear hok
  obtain ⟨kind, hi, hg, c, vk, va, vb⟩ := o
  simp only [OpV.val] at HA HR ⊢
  simp only [OpV.cells] at HL
  go_enter Try.func6, Try.ntmps6
  go_wp2_with fail
  refine (q_new _).mono ?_
  rintro e w1 ⟨b, rfl, hq0, hk⟩
  obtain ⟨F, hq, hF⟩ : ∃ F : Nat → Prop, IsQ F w1 b [] ∧ ∀ i, F i → w.heap.size ≤ i := ⟨_, hq0, fun i h => by have := h.1; simp at this; omega⟩
  have HQ := Lib.hid hq; clear hq hq0
  have HF := Lib.hid hF; clear hF
  have hs1 := hk.size
  simp only [World.size_alloc] at hs1
  have B1 := (Blk.new w #[.int .i64 kind, .int .i64 hi, .int .i64 hg, .int .i64 c, .int .i64 vk, .int .i64 va, .int .i64 vb] 45).keep hk (fun f => f)
  have HB1 := Lib.hid (((Below.refl w.heap.size w).alloc (Nat.le_refl _) (.cells #[.int .i64 kind, .int .i64 hi, .int .i64 hg, .int .i64 c, .int .i64 vk, .int .i64 va, .int .i64 vb] 45)).trans (hk.belowAt (B := w.heap.size) (fun i h => h.elim) (by simp)))
  clear hk
  have c0 := B1.cell 0
  have c1 := B1.cell 1
  have c2 := B1.cell 2
  have c3 := B1.cell 3
  have c4 := B1.cell 4
  have c5 := B1.cell 5
  have c6 := B1.cell 6
  simp at c0 c1 c2 c3 c4 c5 c6
  have HBk := Lib.hid B1; clear B1
  go_wp2_with fail
  refine (HR.out _).mono ?_
  rintro e w2 ⟨rfl, hk⟩
  have HQ2 := Lib.hid (HQ.out.keep hk (fun _ _ f => f))
  have B2 := HBk.out.keep hk (fun f => f)
  have HB2 := Lib.hid (HB1.out.trans (hk.belowAt (B := w.heap.size) (fun i h => h.elim) (by omega)))
  clear hk c0 c1 c2 c3 c4 c5 c6
  have c0 := B2.cell 0
  have c1 := B2.cell 1
  have c2 := B2.cell 2
  have c3 := B2.cell 3
  have c4 := B2.cell 4
  have c5 := B2.cell 5
  have c6 := B2.cell 6
  simp at c0 c1 c2 c3 c4 c5 c6
  have HBk2 := Lib.hid B2; clear B2
  go_wp2_with fail
  go_region_with (first
    | (go_at_call 19; refine (HA.out _).mono ?_; rintro e wa ⟨rfl, hka⟩; have a0 := hka.cell (p := ⟨w.heap.size, 0, none⟩) c0 (fun f => f); have a1 := hka.cell (p := ⟨w.heap.size, 1, none⟩) c1 (fun f => f); have a2 := hka.cell (p := ⟨w.heap.size, 2, none⟩) c2 (fun f => f); have a3 := hka.cell (p := ⟨w.heap.size, 3, none⟩) c3 (fun f => f); have a4 := hka.cell (p := ⟨w.heap.size, 4, none⟩) c4 (fun f => f); have a5 := hka.cell (p := ⟨w.heap.size, 5, none⟩) c5 (fun f => f); have a6 := hka.cell (p := ⟨w.heap.size, 6, none⟩) c6 (fun f => f); have HKa := Lib.hid hka; clear hka)
    | (go_at_call 18; refine (HR.out _).mono ?_; rintro e wb ⟨rfl, hkb⟩; have b0 := hkb.cell (p := ⟨w.heap.size, 0, none⟩) a0 (fun f => f); have b1 := hkb.cell (p := ⟨w.heap.size, 1, none⟩) a1 (fun f => f); have b2 := hkb.cell (p := ⟨w.heap.size, 2, none⟩) a2 (fun f => f); have b3 := hkb.cell (p := ⟨w.heap.size, 3, none⟩) a3 (fun f => f); have b4 := hkb.cell (p := ⟨w.heap.size, 4, none⟩) a4 (fun f => f); have b5 := hkb.cell (p := ⟨w.heap.size, 5, none⟩) a5 (fun f => f); have b6 := hkb.cell (p := ⟨w.heap.size, 6, none⟩) a6 (fun f => f); have HKb := Lib.hid hkb; clear hkb)
    | (go_at_call 20; refine (q_add_bad F (fun i => i = wb.heap.size) b [] [⟨kind, hi, hg, c, vk, va, vb⟩] _ _ ?q ?r ?s).mono ?_; (case q => exact HQ2.out.keep ((((Keep.refl w2 Nope).drew.trans HKa.out (fun _ f => f.elim)).trans HKb.out (fun _ f => f.elim)).alloc (.cells #[.int .i64 kind, .int .i64 hi, .int .i64 hg, .int .i64 c, .int .i64 vk, .int .i64 va, .int .i64 vb] 45)) (fun _ _ f => f)); (case r => exact HL.out wb); (case s => exact HOK.out); rintro e wd ⟨rfl, hkd⟩; clear a0 a1 a2 a3 a4 a5 a6 b0 b1 b2 b3 b4 b5 b6 c0 c1 c2 c3 c4 c5 c6; have HKd := Lib.hid (((((Keep.refl w2 Nope).drew.trans HKa.out (fun _ f => f.elim)).trans HKb.out (fun _ f => f.elim)).alloc (.cells #[.int .i64 kind, .int .i64 hi, .int .i64 hg, .int .i64 c, .int .i64 vk, .int .i64 va, .int .i64 vb] 45)).trans hkd (fun _ f => f.elim)); have HQd := Lib.hid (HQ2.out.keep HKd.out (fun _ _ f => f)); have HBd := Lib.hid (HB2.out.trans (HKd.out.belowAt (B := w.heap.size) (fun i h => h.elim) HB2.out.size)); clear hkd)
    | (go_at_call 21; refine (q_len _ b _ _ HQd.out).mono ?_; rintro e wl ⟨rfl, rfl⟩)
    | (go_at_call 22; refine (awake14 _).mono ?_; rintro e we ⟨rfl, hke⟩; have HBe := Lib.hid (HBd.out.trans (hke.mono HBd.out.size)); clear hke))
  all_goals
    go_wp2_with fail
    go_ret
    exact ⟨rfl, HBe.out⟩

set_option maxHeartbeats 4000000 in
theorem lazyOks_yes (o : OpV) (w : World) (hok : okOp o = true) : Calls Try.prog 6 #[o.val] w (RetTrue w) := by
  have HA := Lib.hid (op_ok o)
  have HR := Lib.hid (ref_opok o)
  have HL := Lib.hid (fun w => lit_op w o)
  rw [hok] at HA HR
  have HOK := Lib.hid (show [o].any (fun o => !okOp o) = !true by simp [hok])
  clear hok
  obtain ⟨kind, hi, hg, c, vk, va, vb⟩ := o
  simp only [OpV.val] at HA HR ⊢
  simp only [OpV.cells] at HL
  go_enter Try.func6, Try.ntmps6
  go_wp2_with fail
  refine (q_new _).mono ?_
  rintro e w1 ⟨b, rfl, hq0, hk⟩
  obtain ⟨F, hq, hF⟩ : ∃ F : Nat → Prop, IsQ F w1 b [] ∧ ∀ i, F i → w.heap.size ≤ i := ⟨_, hq0, fun i h => by have := h.1; simp at this; omega⟩
  have HQ := Lib.hid hq; clear hq hq0
  have HF := Lib.hid hF; clear hF
  have hs1 := hk.size
  simp only [World.size_alloc] at hs1
  have B1 := (Blk.new w #[.int .i64 kind, .int .i64 hi, .int .i64 hg, .int .i64 c, .int .i64 vk, .int .i64 va, .int .i64 vb] 45).keep hk (fun f => f)
  have HB1 := Lib.hid (((Below.refl w.heap.size w).alloc (Nat.le_refl _) (.cells #[.int .i64 kind, .int .i64 hi, .int .i64 hg, .int .i64 c, .int .i64 vk, .int .i64 va, .int .i64 vb] 45)).trans (hk.belowAt (B := w.heap.size) (fun i h => h.elim) (by simp)))
  clear hk
  have c0 := B1.cell 0
  have c1 := B1.cell 1
  have c2 := B1.cell 2
  have c3 := B1.cell 3
  have c4 := B1.cell 4
  have c5 := B1.cell 5
  have c6 := B1.cell 6
  simp at c0 c1 c2 c3 c4 c5 c6
  have HBk := Lib.hid B1; clear B1
  go_wp2_with fail
  refine (HR.out _).mono ?_
  rintro e w2 ⟨rfl, hk⟩
  have HQ2 := Lib.hid (HQ.out.keep hk (fun _ _ f => f))
  have B2 := HBk.out.keep hk (fun f => f)
  have HB2 := Lib.hid (HB1.out.trans (hk.belowAt (B := w.heap.size) (fun i h => h.elim) (by omega)))
  clear hk c0 c1 c2 c3 c4 c5 c6
  have c0 := B2.cell 0
  have c1 := B2.cell 1
  have c2 := B2.cell 2
  have c3 := B2.cell 3
  have c4 := B2.cell 4
  have c5 := B2.cell 5
  have c6 := B2.cell 6
  simp at c0 c1 c2 c3 c4 c5 c6
  have HBk2 := Lib.hid B2; clear B2
  go_wp2_with fail
  go_region_with (first
    | (go_at_call 19; refine (HA.out _).mono ?_; rintro e wa ⟨rfl, hka⟩; have a0 := hka.cell (p := ⟨w.heap.size, 0, none⟩) c0 (fun f => f); have a1 := hka.cell (p := ⟨w.heap.size, 1, none⟩) c1 (fun f => f); have a2 := hka.cell (p := ⟨w.heap.size, 2, none⟩) c2 (fun f => f); have a3 := hka.cell (p := ⟨w.heap.size, 3, none⟩) c3 (fun f => f); have a4 := hka.cell (p := ⟨w.heap.size, 4, none⟩) c4 (fun f => f); have a5 := hka.cell (p := ⟨w.heap.size, 5, none⟩) c5 (fun f => f); have a6 := hka.cell (p := ⟨w.heap.size, 6, none⟩) c6 (fun f => f); have HKa := Lib.hid hka; clear hka)
    | (go_at_call 18; refine (HR.out _).mono ?_; rintro e wb ⟨rfl, hkb⟩; have b0 := hkb.cell (p := ⟨w.heap.size, 0, none⟩) a0 (fun f => f); have b1 := hkb.cell (p := ⟨w.heap.size, 1, none⟩) a1 (fun f => f); have b2 := hkb.cell (p := ⟨w.heap.size, 2, none⟩) a2 (fun f => f); have b3 := hkb.cell (p := ⟨w.heap.size, 3, none⟩) a3 (fun f => f); have b4 := hkb.cell (p := ⟨w.heap.size, 4, none⟩) a4 (fun f => f); have b5 := hkb.cell (p := ⟨w.heap.size, 5, none⟩) a5 (fun f => f); have b6 := hkb.cell (p := ⟨w.heap.size, 6, none⟩) a6 (fun f => f); have HKb := Lib.hid hkb; clear hkb)
    | (go_at_call 20; refine (q_add F (fun i => i = wb.heap.size) b [] [⟨kind, hi, hg, c, vk, va, vb⟩] _ _ ?q ?r ?s ?t).mono ?_; (case q => exact HQ2.out.keep ((((Keep.refl w2 Nope).drew.trans HKa.out (fun _ f => f.elim)).trans HKb.out (fun _ f => f.elim)).alloc (.cells #[.int .i64 kind, .int .i64 hi, .int .i64 hg, .int .i64 c, .int .i64 vk, .int .i64 va, .int .i64 vb] 45)) (fun _ _ f => f)); (case r => exact HL.out wb); (case s => exact HOK.out); (case t => simp); rintro e wd ⟨rfl, hqd, hkd⟩; clear a0 a1 a2 a3 a4 a5 a6 b0 b1 b2 b3 b4 b5 b6 c0 c1 c2 c3 c4 c5 c6; have HQd := Lib.hid hqd; have hsw := HB2.out.size; have HBd := Lib.hid (HB2.out.trans ((((((Keep.refl w2 Nope).drew.trans HKa.out (fun _ f => f.elim)).trans HKb.out (fun _ f => f.elim)).alloc (.cells #[.int .i64 kind, .int .i64 hi, .int .i64 hg, .int .i64 c, .int .i64 vk, .int .i64 va, .int .i64 vb] 45)).belowAt (B := w.heap.size) (fun i h => h.elim) hsw).trans (hkd.belowAt (B := w.heap.size) HF.out (by have := (((((Keep.refl w2 Nope).drew.trans HKa.out (fun _ f => f.elim)).trans HKb.out (fun _ f => f.elim)).alloc (.cells #[.int .i64 kind, .int .i64 hi, .int .i64 hg, .int .i64 c, .int .i64 vk, .int .i64 va, .int .i64 vb] 45))).size; omega)))); clear hkd hqd)
    | (go_at_call 21; refine (q_len _ b _ _ HQd.out).mono ?_; rintro e wl ⟨rfl, rfl⟩)
    | (go_at_call 22; refine (awake14 _).mono ?_; rintro e we ⟨rfl, hke⟩; have HBe := Lib.hid (HBd.out.trans (hke.mono HBd.out.size)); clear hke))
  all_goals
    go_wp2_with fail
    go_ret
    exact ⟨rfl, HBe.out⟩

theorem lazyOks_walk (o : OpV) (w : World) : Calls Try.prog 6 #[o.val] w (RetTrue w) := by
  cases h : okOp o
  · exact lazyOks_no o w h
  · exact lazyOks_yes o w h
end Go.Proofs.Ytnadfefjmoibeaa
