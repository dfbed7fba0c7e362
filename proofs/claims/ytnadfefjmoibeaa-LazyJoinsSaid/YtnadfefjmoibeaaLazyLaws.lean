/-
  The laws of package vivariumlaw14 that speak of one op, walked.
-/
import Derived.Test.YtnadfefjmoibeaaLazy5
import Derived.Deep.RegionWith
namespace Go.Proofs.Ytnadfefjmoibeaa
open Go Go.RowKit

/-- A literal of one op. -/
theorem lit_op (w : World) (o : OpV) : Rd (fun i => i = w.heap.size) (w.alloc (.cells o.cells.toArray 45)) (.slice (some ⟨w.heap.size, 0, none⟩) 1 1) [o].length (flatOp [o]) := by
  have h := (Own.lit (S := fun i => i = w.heap.size) w 45 7 1 o.cells.toArray (by decide) (by simp [OpV.cells]) rfl).rd
  simpa [flatOp] using h

set_option maxHeartbeats 1000000 in
theorem awake14 (w : World) : Calls Try.prog 22 #[] w (RetTrue w) := by
  have hok := op_ok ⟨1, 3, 1, 0, 0, 0, 0⟩
  simp only [OpV.val] at hok
  rw [show okOp ⟨1, 3, 1, 0, 0, 0, 0⟩ = true from rfl] at hok
  have HOK := Lib.hid hok; clear hok
  go_enter Try.func22, Try.ntmps22
  go_wp2_with fail
  refine (q_new _).mono ?_
  rintro e w1 ⟨b, rfl, hq, hk⟩
  have HQ := Lib.hid hq; clear hq
  have hs1 := hk.size
  have HB1 := Lib.hid hk.below; clear hk
  go_wp2_with fail
  have R2 := Lib.hid (lit_op (w1.alloc (.cells (OpV.cells ⟨1, 3, 1, 0, 0, 0, 0⟩).toArray 45)) ⟨1, 3, 1, 0, 0, 0, 0⟩)
  have K2 : Keep w1 ((w1.alloc (.cells (OpV.cells ⟨1, 3, 1, 0, 0, 0, 0⟩).toArray 45)).alloc (.cells (OpV.cells ⟨1, 3, 1, 0, 0, 0, 0⟩).toArray 45)) Nope := ((Keep.refl w1 Nope).alloc _).alloc _
  have Q2 := Lib.hid (HQ.out.keep K2 (fun _ _ f => f))
  have HB2 := Lib.hid (HB1.out.trans (K2.belowAt (B := w.heap.size) (fun i h => h.elim) hs1))
  have hs2 := HB2.out.size
  clear K2
  have B2 := Lib.hid ((Blk.new w1 (OpV.cells ⟨1, 3, 1, 0, 0, 0, 0⟩).toArray 45).alloc (.cells (OpV.cells ⟨1, 3, 1, 0, 0, 0, 0⟩).toArray 45))
  simp only [OpV.cells, World.size_alloc] at R2 Q2 HB2 B2
  refine (q_add _ _ b [] [⟨1, 3, 1, 0, 0, 0, 0⟩] _ _ Q2.out R2.out (by decide) (by decide)).mono ?_
  rintro e w3 ⟨rfl, hq, hk⟩
  have hs3 := hk.size
  have HQ3 := Lib.hid hq
  have B3 := Lib.hid (B2.out.keep hk (fun h => by have := h.2; omega))
  have HB3 := Lib.hid (HB2.out.trans (hk.belowAt (B := w.heap.size) (fun i h => h.1) hs2))
  clear hq hk
  go_wp2_with fail
  have R4 := Lib.hid (lit_op w3 ⟨9, 0, 0, 0, 0, 0, 0⟩)
  simp only [OpV.cells] at R4
  refine (q_add_bad _ _ b _ [⟨9, 0, 0, 0, 0, 0, 0⟩] _ _ (HQ3.out.keep ((Keep.refl w3 Nope).alloc _) (fun _ _ f => f)) R4.out (by decide)).mono ?_
  rintro e w5 ⟨rfl, hk⟩
  have hk' := ((Keep.refl w3 Nope).alloc (.cells #[.int .i64 9, .int .i64 0, .int .i64 0, .int .i64 0, .int .i64 0, .int .i64 0, .int .i64 0] 45)).trans hk (fun i h => .inl h)
  have HQ5 := Lib.hid (HQ3.out.keep hk' (fun _ _ f => f))
  have B5 := (B3.out.keep hk' (fun f => f))
  have hs3' := HB3.out.size
  have HB5 := Lib.hid (HB3.out.trans (hk'.belowAt (B := w.heap.size) (fun i h => h.elim) hs3'))
  have c0 := B5.cell 0
  have c1 := B5.cell 1
  have c2 := B5.cell 2
  have c3 := B5.cell 3
  have c4 := B5.cell 4
  have c5 := B5.cell 5
  have c6 := B5.cell 6
  simp at c0 c1 c2 c3 c4 c5 c6
  clear hk hk' B5
  go_wp2_with fail
  refine (q_len _ b _ _ HQ5.out).mono ?_
  rintro e w6 ⟨rfl, rfl⟩
  go_wp2_with fail
  refine (HOK.out _).mono ?_
  rintro e w7 ⟨rfl, hk⟩
  have HB7 := Lib.hid (HB5.out.trans (hk.belowAt (B := w.heap.size) (fun i h => h.elim) HB5.out.size))
  clear hk
  go_wp2_with fail
  go_ret
  exact ⟨rfl, HB7.out⟩
end Go.Proofs.Ytnadfefjmoibeaa
