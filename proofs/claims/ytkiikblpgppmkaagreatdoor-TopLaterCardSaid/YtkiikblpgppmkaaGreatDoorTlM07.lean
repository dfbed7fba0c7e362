/-
  Sets of numbers below 64: Remove.
-/
import Derived.Test.YtkiikblpgppmkaaGreatDoorTlM06
namespace Go.Proofs.YtkiikblpgppmkaaGreatDoor
open Go Go.RowKit
set_option linter.unusedVariables false
set_option linter.unusedSimpArgs false

theorem node_kid (x i : Nat) (hi : i < 64) : (nodeCs x nilV)[1 + i]? = some (.pointer none) := by
  have e : nodeCs x nilV = (.int .u64 (x : Int) :: List.replicate 64 nilV).toArray := rfl
  rw [e, Nat.add_comm, List.getElem?_toArray, List.getElem?_cons_succ, List.getElem?_replicate, if_pos hi]
  rfl
theorem node_same (x i : Nat) (hi : i < 64) : (nodeCs x nilV).setIfInBounds (1 + i) (.pointer none) = nodeCs x nilV := by
  apply Array.ext_getElem?
  intro j
  by_cases e : 1 + i = j
  · subst e
    rw [node_kid x i hi, Array.getElem?_setIfInBounds_self_of_lt]
    have := node_kid x i hi
    exact (Array.getElem?_eq_some_iff.1 this).1
  · rw [Array.getElem?_setIfInBounds_ne e]
/-- Nothing is left of it but its own block. -/
theorem hib_fin {w0 w : World} {L : List Asr} {b p : Nat} {A B C : Asr} {n : Nat} (hp : p < L.length) (h : St w0 w ([blkA b ((setCs 0 nilV n).setIfInBounds 65 (.int .i64 0)) 316, A, B, C] ++ L.set p empA)) : St w0 w (L.set p (hibA b 0)) := by
  have e : (setCs 0 nilV n).setIfInBounds 65 (.int .i64 0) = setCs 0 nilV 0 := rfl
  rw [e] at h
  unfold hibA
  rw [if_pos rfl]
  have h2 := h.pick (l' := L.set p (blkA b (setCs 0 nilV 0) 316)) (fun j => if j = p then 0 else j + 4) (fun i j _ _ e => by by_cases h1 : i = p <;> by_cases h2 : j = p <;> simp [h1, h2] at e <;> omega) (fun j D hj => by
    by_cases e : j = p
    · subst e
      rw [List.getElem?_set_self hp] at hj
      cases hj
      simp
    · rw [List.getElem?_set_ne (fun h => e h.symm)] at hj
      simp only [e, if_false]
      show (L.set p empA)[j]? = some D
      rw [List.getElem?_set_ne (fun h => e h.symm)]
      exact hj)
  exact h2
set_option maxHeartbeats 4000000 in
theorem hib_rem {w0 w : World} {L : List Asr} {b m : Nat} (H : St w0 w L) (p : Nat) (hp : L[p]? = some (hibA b m)) (hm : m < 2 ^ 64) (i : Nat) (hi : i < 64) (hb : m.testBit i = true) :
    Calls Tryz.prog 148 #[ptr b, .int .i64 (i : Nat)] w (fun e w' => e = .returned (.tuple #[.bool true, .int .i64 0]) ∧ St w0 w' (L.set p (hibA b (delW m i)))) := by
  have h0 : m ≠ 0 := by rintro rfl; simp at hb
  have HH := Lib.hid (hib_has b m i hi w (H.hibRd p hp hm))
  rw [hb] at HH
  have HOK := Lib.hid (hib_ok i hi w)
  have HD := Lib.hid (fun (l : Nat) h1 h2 w => hib_digit i hi l h1 h2 w)
  have HD0 := Lib.hid (hib_digit0 i hi)
  have HS := Lib.hid (And.intro H (And.intro hp hm))
  clear H hp hm
  unfold ptr at *
  go_enter Tryz.func148, Tryz.ntmps148
  go_wp2_with (first | (go_at_call 199; refine HOK.out.mono ?_; rintro e w' ⟨rfl, rfl⟩) | (go_at_call 120; refine HH.out.mono ?_; rintro e w1 ⟨rfl, hk⟩; have HK := Lib.hid hk; clear hk))
  have HDIS := Lib.hid (hib_digit0 i hi)
  obtain ⟨H, hp, hm⟩ := HS.out
  obtain ⟨⟨b2, b1, b0⟩, H1⟩ := (H.keep HK.out).hibSplit p hp h0
  have HPL := Lib.hid (List.getElem?_eq_some_iff.1 hp).1
  unfold hibL ptr at H1
  have HB3 := Lib.hid (H1.box0 #[.pointer none, .pointer none, .pointer none, .pointer (some ⟨b, 0, none⟩)] 335)
  have kc : (w1.alloc (.cells #[.pointer none, .pointer none, .pointer none, .pointer (some ⟨b, 0, none⟩)] 335)).cell? ⟨b, 1, none⟩ = some (.pointer (some ⟨b2, 0, none⟩)) := by rw [(HB3.out.blk 1 rfl).cell]; rfl
  clear H hp H1
  refine wp_loop_rounds 4 ?_
  rw [rounds_succ]
  go_wp2_with fail
  refine wp_region_M (r := 8) (S := fun w' => w'.cell? ⟨b, 1, none⟩ = some (.pointer (some ⟨b2, 0, none⟩))) (by kernel_rfl) ?_ (fun hHeld => ?_)
  · (try dsimp only); exact kc
  refine tkP 0 ?_; refine tkP 1 ?_; refine tkP 2 ?_; refine tkP 4 ?_; refine tkP 5 ?_; refine tkC 3 ?_
  intro K hK
  go_simp
  go_wp2_with ((go_at_call 202; refine (HD.out 3 (by omega) (by omega) _).mono ?_; rintro e w' ⟨rfl, rfl⟩))
  refine hK.out _ _ ?_ (fun hHeld => ?_)
  · (try dsimp only); exact kc
  clear hK K
  refine tkP 6 ?_; refine tkH 7 ?_; refine tkF 8 ?_
  intro K hK
  go_simp
  refine hK.out _ _ ?_
  clear hK K
  refine wpAnyM_done (by kernel_rfl) ?_ _
  clear kc
  obtain ⟨x2, hx2⟩ : ∃ x, x = (w1.alloc (.cells #[.pointer none, .pointer none, .pointer none, .pointer (some ⟨b, 0, none⟩)] 335)).drew := ⟨_, rfl⟩
  have HB := HB3.out.drew
  rw [← hx2] at HB ⊢
  clear hx2 HB3
  have kw := (HB.blk 0 rfl).cell 2
  have kf := (HB.blk 0 rfl).frozen 2
  simp at kw
  have HB2 := Lib.hid (HB.write 0 rfl 2 (.pointer (some ⟨b2, 0, none⟩)))
  have kc : (x2.setCell ⟨w1.heap.size, 2, none⟩ (.pointer (some ⟨b2, 0, none⟩))).cell? ⟨b2, 1, none⟩ = some (.pointer (some ⟨b1, 0, none⟩)) := by rw [(HB2.out.blk 2 rfl).cell]; rfl
  clear HB
  go_wp2_with fail
  rw [rounds_succ]
  go_wp2_with fail
  refine wp_region_M (r := 8) (S := fun w' => w'.cell? ⟨b2, 1, none⟩ = some (.pointer (some ⟨b1, 0, none⟩))) (by kernel_rfl) ?_ (fun hHeld => ?_)
  · (try dsimp only); exact kc
  refine tkP 0 ?_; refine tkP 1 ?_; refine tkP 2 ?_; refine tkP 4 ?_; refine tkP 5 ?_; refine tkC 3 ?_
  intro K hK
  go_simp
  go_wp2_with ((go_at_call 202; refine (HD.out 2 (by omega) (by omega) _).mono ?_; rintro e w' ⟨rfl, rfl⟩))
  refine hK.out _ _ ?_ (fun hHeld => ?_)
  · (try dsimp only); exact kc
  clear hK K
  refine tkP 6 ?_; refine tkH 7 ?_; refine tkF 8 ?_
  intro K hK
  go_simp
  refine hK.out _ _ ?_
  clear hK K
  refine wpAnyM_done (by kernel_rfl) ?_ _
  clear kc kw kf
  obtain ⟨x1, hx1⟩ : ∃ x, x = (x2.setCell ⟨w1.heap.size, 2, none⟩ (.pointer (some ⟨b2, 0, none⟩))).drew := ⟨_, rfl⟩
  have HB := HB2.out.drew
  rw [← hx1] at HB ⊢
  clear hx1 HB2
  have kw := (HB.blk 0 rfl).cell 1
  have kf := (HB.blk 0 rfl).frozen 1
  simp at kw
  have HB1 := Lib.hid (HB.write 0 rfl 1 (.pointer (some ⟨b1, 0, none⟩)))
  have kc : (x1.setCell ⟨w1.heap.size, 1, none⟩ (.pointer (some ⟨b1, 0, none⟩))).cell? ⟨b1, 1, none⟩ = some (.pointer (some ⟨b0, 0, none⟩)) := by rw [(HB1.out.blk 3 rfl).cell]; rfl
  clear HB
  go_wp2_with fail
  rw [rounds_succ]
  go_wp2_with fail
  refine wp_region_M (r := 8) (S := fun w' => w'.cell? ⟨b1, 1, none⟩ = some (.pointer (some ⟨b0, 0, none⟩))) (by kernel_rfl) ?_ (fun hHeld => ?_)
  · (try dsimp only); exact kc
  refine tkP 0 ?_; refine tkP 1 ?_; refine tkP 2 ?_; refine tkP 4 ?_; refine tkP 5 ?_; refine tkC 3 ?_
  intro K hK
  go_simp
  go_wp2_with ((go_at_call 202; refine (HD.out 1 (by omega) (by omega) _).mono ?_; rintro e w' ⟨rfl, rfl⟩))
  refine hK.out _ _ ?_ (fun hHeld => ?_)
  · (try dsimp only); exact kc
  clear hK K
  refine tkP 6 ?_; refine tkH 7 ?_; refine tkF 8 ?_
  intro K hK
  go_simp
  refine hK.out _ _ ?_
  clear hK K
  refine wpAnyM_done (by kernel_rfl) ?_ _
  clear kc kw kf
  obtain ⟨x0, hx0⟩ : ∃ x, x = (x1.setCell ⟨w1.heap.size, 1, none⟩ (.pointer (some ⟨b1, 0, none⟩))).drew := ⟨_, rfl⟩
  have HB := HB1.out.drew
  rw [← hx0] at HB ⊢
  clear hx0 HB1
  have kw := (HB.blk 0 rfl).cell 0
  have kf := (HB.blk 0 rfl).frozen 0
  simp at kw
  have HB0 := Lib.hid (HB.write 0 rfl 0 (.pointer (some ⟨b0, 0, none⟩)))
  clear HB
  go_wp2_with fail
  rw [rounds_succ]
  go_wp2_with fail
  obtain ⟨y0, hy⟩ : ∃ y, x0.setCell ⟨w1.heap.size, 0, none⟩ (.pointer (some ⟨b0, 0, none⟩)) = y := ⟨_, rfl⟩
  rw [hy] at HB0 ⊢
  have Hy0 := Lib.hid (show St w0 y0 (blkA w1.heap.size #[.pointer (some ⟨b0, 0, none⟩), .pointer (some ⟨b1, 0, none⟩), .pointer (some ⟨b2, 0, none⟩), .pointer (some ⟨b, 0, none⟩)] 335 :: [blkA b (setCs 1 (.pointer (some ⟨b2, 0, none⟩)) (pop m)) 316, blkA b2 (nodeCs 1 (.pointer (some ⟨b1, 0, none⟩))) 313, blkA b1 (nodeCs 1 (.pointer (some ⟨b0, 0, none⟩))) 313, blkA b0 (nodeCs m nilV) 313] ++ L.set p empA) from HB0.out)
  clear hy HB0 kw kf
  refine wp_loop_rounds 5 ?_
  -- SECOND
  by_cases hd : delW m i = 0
  · have HE0 := Lib.hid (show ((delW m i : Nat) : Int) = 0 by rw [hd]; rfl)
    have HDW := Lib.hid hd
    clear hd
    have kw := (Hy0.out.blk 0 rfl).cell 0
    simp at kw
    have kc : y0.cell? ⟨b0, 0, none⟩ = some (.int .u64 (m : Int)) := by rw [(Hy0.out.blk 4 rfl).cell]; rfl
    have HA := Lib.hid (Hy0.out.alloc (.cells #[(.int .i64 (i : Int))] 3))
    have ka : (y0.alloc (.cells #[(.int .i64 (i : Int))] 3)).cell? ⟨b0, 0, none⟩ = some (.int .u64 (m : Int)) := by rw [(HA.out.blk 4 rfl).cell]; rfl
    have kf := (HA.out.blk 4 rfl).frozen 0
    have HZ := Lib.hid (show St w0 (((y0.alloc (.cells #[(.int .i64 (i : Int))] 3)).setCell ⟨b0, 0, none⟩ (.int .u64 0)).drew) (blkA w1.heap.size #[.pointer (some ⟨b0, 0, none⟩), .pointer (some ⟨b1, 0, none⟩), .pointer (some ⟨b2, 0, none⟩), .pointer (some ⟨b, 0, none⟩)] 335 :: [blkA b (setCs 1 (.pointer (some ⟨b2, 0, none⟩)) (pop m)) 316, blkA b2 (nodeCs 1 (.pointer (some ⟨b1, 0, none⟩))) 313, blkA b1 (nodeCs 1 (.pointer (some ⟨b0, 0, none⟩))) 313, blkA b0 (nodeCs 0 nilV) 313] ++ L.set p empA) from (HA.out.write 4 rfl 0 (.int .u64 0)).drew)
    clear HA
    rw [rounds_succ]
    go_wp2_with (go_at_call 202; refine (HD0.out _).mono ?_; rintro e w' ⟨rfl, rfl⟩)
    refine wp_region_M (r := 14) (S := fun w' => w'.cell? ⟨w1.heap.size, 0, none⟩ = some (.pointer (some ⟨b0, 0, none⟩)) ∧ w'.cell? ⟨b0, 0, none⟩ = some (.int .u64 (m : Int))) (by kernel_rfl) ?_ (fun hHeld => ?_)
    · (try dsimp only); exact ⟨(show Keep y0 _ Nope from (by (repeat (first | exact Keep.refl _ _ | apply Keep.drew | apply Keep.drewN | apply Keep.alloc)))).cell kw (fun f => f), (show Keep y0 _ Nope from (by (repeat (first | exact Keep.refl _ _ | apply Keep.drew | apply Keep.drewN | apply Keep.alloc)))).cell kc (fun f => f)⟩
    refine tkP 0 ?_; refine tkP 1 ?_; refine tkH 2 ?_; refine tkP 3 ?_; refine tkP 4 ?_; refine tkH 5 ?_; refine tkP 6 ?_; refine tkP 7 ?_; refine tkH 8 ?_; refine tkP 9 ?_; refine tkC 10 ?_
    intro K hK
    go_simp
    refine hK.out _ _ ?_ (fun hHeld => ?_)
    · (try dsimp only); exact ⟨(show Keep y0 _ Nope from (by (repeat (first | exact Keep.refl _ _ | apply Keep.drew | apply Keep.drewN | apply Keep.alloc)))).cell kw (fun f => f), (show Keep y0 _ Nope from (by (repeat (first | exact Keep.refl _ _ | apply Keep.drew | apply Keep.drewN | apply Keep.alloc)))).cell kc (fun f => f)⟩
    clear hK K
    refine tkC 11 ?_
    intro K hK
    go_simp
    go_wp2_with ((go_at_call 218; refine (word_without m hm i hi _ _ (fun z => z = y0.heap.size) (by first | exact (rd_lit1 _ (i : Int)).drew | exact rd_lit1 _ (i : Int))).mono ?_; rintro e w' ⟨rfl, rfl⟩; rw [HE0.out]))
    refine hK.out _ _ ?_ (fun hHeld => ?_)
    · (try dsimp only); exact ⟨(show Keep y0 _ Nope from (by (repeat (first | exact Keep.refl _ _ | apply Keep.drew | apply Keep.drewN | apply Keep.alloc)))).cell kw (fun f => f), (show Keep y0 _ Nope from (by (repeat (first | exact Keep.refl _ _ | apply Keep.drew | apply Keep.drewN | apply Keep.alloc)))).cell kc (fun f => f)⟩
    clear hK K
    refine tkP 12 ?_; refine tkP 13 ?_; refine tkF 14 ?_
    intro K hK
    go_simp
    refine hK.out _ _ ?_
    clear hK K
    refine wpAnyM_done (by kernel_rfl) ?_ _
    clear kw kc ka kf
    obtain ⟨z0, hz⟩ : ∃ z, ((y0.alloc (.cells #[(.int .i64 (i : Int))] 3)).setCell ⟨b0, 0, none⟩ (.int .u64 0)).drew = z := ⟨_, rfl⟩
    rw [hz] at HZ ⊢
    clear hz Hy0 hHeld
    have kw := (HZ.out.blk 0 rfl).cell 0
    simp at kw
    have kn : z0.cell? ⟨b0, (1 + i), none⟩ = some (.pointer none) := by rw [(HZ.out.blk 4 rfl).cell]; exact node_kid _ i hi
    have kf := (HZ.out.blk 4 rfl).frozen (1 + i)
    have HY := Lib.hid (show St w0 (z0.setCell ⟨b0, (1 + i), none⟩ (.pointer none)) (blkA w1.heap.size #[.pointer (some ⟨b0, 0, none⟩), .pointer (some ⟨b1, 0, none⟩), .pointer (some ⟨b2, 0, none⟩), .pointer (some ⟨b, 0, none⟩)] 335 :: [blkA b (setCs 1 (.pointer (some ⟨b2, 0, none⟩)) (pop m)) 316, blkA b2 (nodeCs 1 (.pointer (some ⟨b1, 0, none⟩))) 313, blkA b1 (nodeCs 1 (.pointer (some ⟨b0, 0, none⟩))) 313, blkA b0 (nodeCs 0 nilV) 313] ++ L.set p empA) by have h := HZ.out.write 4 rfl (1 + i) (.pointer none); rw [node_same _ i hi] at h; exact h)
    have kw2 := (HY.out.blk 0 rfl).cell 0
    simp at kw2
    have kc2 : (z0.setCell ⟨b0, (1 + i), none⟩ (.pointer none)).cell? ⟨b0, 0, none⟩ = some (.int .u64 0) := by rw [(HY.out.blk 4 rfl).cell]; rfl
    clear HZ
    go_wp2_with fail
    obtain ⟨y1, hy⟩ : ∃ y, z0.setCell ⟨b0, (1 + i), none⟩ (.pointer none) = y := ⟨_, rfl⟩
    rw [hy] at HY ⊢
    have Hy1 := Lib.hid HY.out
    clear hy HY kw kn kf kw2 kc2
    have kw := (Hy1.out.blk 0 rfl).cell 1
    simp at kw
    have kc : y1.cell? ⟨b1, 0, none⟩ = some (.int .u64 1) := by rw [(Hy1.out.blk 3 rfl).cell]; rfl
    have HA := Lib.hid (Hy1.out.alloc (.cells #[(.int .i64 0)] 3))
    have ka : (y1.alloc (.cells #[(.int .i64 0)] 3)).cell? ⟨b1, 0, none⟩ = some (.int .u64 1) := by rw [(HA.out.blk 3 rfl).cell]; rfl
    have kf := (HA.out.blk 3 rfl).frozen 0
    have HZ := Lib.hid (show St w0 (((y1.alloc (.cells #[(.int .i64 0)] 3)).setCell ⟨b1, 0, none⟩ (.int .u64 0)).drew) (blkA w1.heap.size #[.pointer (some ⟨b0, 0, none⟩), .pointer (some ⟨b1, 0, none⟩), .pointer (some ⟨b2, 0, none⟩), .pointer (some ⟨b, 0, none⟩)] 335 :: [blkA b (setCs 1 (.pointer (some ⟨b2, 0, none⟩)) (pop m)) 316, blkA b2 (nodeCs 1 (.pointer (some ⟨b1, 0, none⟩))) 313, blkA b1 (nodeCs 0 (.pointer (some ⟨b0, 0, none⟩))) 313, blkA b0 (nodeCs 0 nilV) 313] ++ L.set p empA) from (HA.out.write 3 rfl 0 (.int .u64 0)).drew)
    clear HA
    rw [rounds_succ]
    go_wp2_with (go_at_call 202; refine (HD.out 1 (by omega) (by omega) _).mono ?_; rintro e w' ⟨rfl, rfl⟩)
    refine wp_region_M (r := 14) (S := fun w' => w'.cell? ⟨w1.heap.size, 1, none⟩ = some (.pointer (some ⟨b1, 0, none⟩)) ∧ w'.cell? ⟨b1, 0, none⟩ = some (.int .u64 1)) (by kernel_rfl) ?_ (fun hHeld => ?_)
    · (try dsimp only); exact ⟨(show Keep y1 _ Nope from (by (repeat (first | exact Keep.refl _ _ | apply Keep.drew | apply Keep.drewN | apply Keep.alloc)))).cell kw (fun f => f), (show Keep y1 _ Nope from (by (repeat (first | exact Keep.refl _ _ | apply Keep.drew | apply Keep.drewN | apply Keep.alloc)))).cell kc (fun f => f)⟩
    refine tkP 0 ?_; refine tkP 1 ?_; refine tkH 2 ?_; refine tkP 3 ?_; refine tkP 4 ?_; refine tkH 5 ?_; refine tkP 6 ?_; refine tkP 7 ?_; refine tkH 8 ?_; refine tkP 9 ?_; refine tkC 10 ?_
    intro K hK
    go_simp
    refine hK.out _ _ ?_ (fun hHeld => ?_)
    · (try dsimp only); exact ⟨(show Keep y1 _ Nope from (by (repeat (first | exact Keep.refl _ _ | apply Keep.drew | apply Keep.drewN | apply Keep.alloc)))).cell kw (fun f => f), (show Keep y1 _ Nope from (by (repeat (first | exact Keep.refl _ _ | apply Keep.drew | apply Keep.drewN | apply Keep.alloc)))).cell kc (fun f => f)⟩
    clear hK K
    refine tkC 11 ?_
    intro K hK
    go_simp
    go_wp2_with ((go_at_call 218; refine (word_without 1 (by decide) 0 (by decide) _ _ (fun z => z = y1.heap.size) (by first | exact (rd_lit1 _ 0).drew | exact rd_lit1 _ 0)).mono ?_; rintro e w' ⟨rfl, rfl⟩; rw [show ((delW 1 0 : Nat) : Int) = 0 from rfl]))
    refine hK.out _ _ ?_ (fun hHeld => ?_)
    · (try dsimp only); exact ⟨(show Keep y1 _ Nope from (by (repeat (first | exact Keep.refl _ _ | apply Keep.drew | apply Keep.drewN | apply Keep.alloc)))).cell kw (fun f => f), (show Keep y1 _ Nope from (by (repeat (first | exact Keep.refl _ _ | apply Keep.drew | apply Keep.drewN | apply Keep.alloc)))).cell kc (fun f => f)⟩
    clear hK K
    refine tkP 12 ?_; refine tkP 13 ?_; refine tkF 14 ?_
    intro K hK
    go_simp
    refine hK.out _ _ ?_
    clear hK K
    refine wpAnyM_done (by kernel_rfl) ?_ _
    clear kw kc ka kf
    obtain ⟨z1, hz⟩ : ∃ z, ((y1.alloc (.cells #[(.int .i64 0)] 3)).setCell ⟨b1, 0, none⟩ (.int .u64 0)).drew = z := ⟨_, rfl⟩
    rw [hz] at HZ ⊢
    clear hz Hy1 hHeld
    have kw := (HZ.out.blk 0 rfl).cell 1
    simp at kw
    have kn : z1.cell? ⟨b1, 1, none⟩ = some (.pointer (some ⟨b0, 0, none⟩)) := by rw [(HZ.out.blk 3 rfl).cell]; rfl
    have kf := (HZ.out.blk 3 rfl).frozen 1
    have HY := Lib.hid (show St w0 (z1.setCell ⟨b1, 1, none⟩ (.pointer none)) (blkA w1.heap.size #[.pointer (some ⟨b0, 0, none⟩), .pointer (some ⟨b1, 0, none⟩), .pointer (some ⟨b2, 0, none⟩), .pointer (some ⟨b, 0, none⟩)] 335 :: [blkA b (setCs 1 (.pointer (some ⟨b2, 0, none⟩)) (pop m)) 316, blkA b2 (nodeCs 1 (.pointer (some ⟨b1, 0, none⟩))) 313, blkA b1 (nodeCs 0 nilV) 313, blkA b0 (nodeCs 0 nilV) 313] ++ L.set p empA) from HZ.out.write 3 rfl 1 (.pointer none))
    have kw2 := (HY.out.blk 0 rfl).cell 1
    simp at kw2
    have kc2 : (z1.setCell ⟨b1, 1, none⟩ (.pointer none)).cell? ⟨b1, 0, none⟩ = some (.int .u64 0) := by rw [(HY.out.blk 3 rfl).cell]; rfl
    clear HZ
    go_wp2_with fail
    obtain ⟨y2, hy⟩ : ∃ y, z1.setCell ⟨b1, 1, none⟩ (.pointer none) = y := ⟨_, rfl⟩
    rw [hy] at HY ⊢
    have Hy2 := Lib.hid HY.out
    clear hy HY kw kn kf kw2 kc2
    have kw := (Hy2.out.blk 0 rfl).cell 2
    simp at kw
    have kc : y2.cell? ⟨b2, 0, none⟩ = some (.int .u64 1) := by rw [(Hy2.out.blk 2 rfl).cell]; rfl
    have HA := Lib.hid (Hy2.out.alloc (.cells #[(.int .i64 0)] 3))
    have ka : (y2.alloc (.cells #[(.int .i64 0)] 3)).cell? ⟨b2, 0, none⟩ = some (.int .u64 1) := by rw [(HA.out.blk 2 rfl).cell]; rfl
    have kf := (HA.out.blk 2 rfl).frozen 0
    have HZ := Lib.hid (show St w0 (((y2.alloc (.cells #[(.int .i64 0)] 3)).setCell ⟨b2, 0, none⟩ (.int .u64 0)).drew) (blkA w1.heap.size #[.pointer (some ⟨b0, 0, none⟩), .pointer (some ⟨b1, 0, none⟩), .pointer (some ⟨b2, 0, none⟩), .pointer (some ⟨b, 0, none⟩)] 335 :: [blkA b (setCs 1 (.pointer (some ⟨b2, 0, none⟩)) (pop m)) 316, blkA b2 (nodeCs 0 (.pointer (some ⟨b1, 0, none⟩))) 313, blkA b1 (nodeCs 0 nilV) 313, blkA b0 (nodeCs 0 nilV) 313] ++ L.set p empA) from (HA.out.write 2 rfl 0 (.int .u64 0)).drew)
    clear HA
    rw [rounds_succ]
    go_wp2_with (go_at_call 202; refine (HD.out 2 (by omega) (by omega) _).mono ?_; rintro e w' ⟨rfl, rfl⟩)
    refine wp_region_M (r := 14) (S := fun w' => w'.cell? ⟨w1.heap.size, 2, none⟩ = some (.pointer (some ⟨b2, 0, none⟩)) ∧ w'.cell? ⟨b2, 0, none⟩ = some (.int .u64 1)) (by kernel_rfl) ?_ (fun hHeld => ?_)
    · (try dsimp only); exact ⟨(show Keep y2 _ Nope from (by (repeat (first | exact Keep.refl _ _ | apply Keep.drew | apply Keep.drewN | apply Keep.alloc)))).cell kw (fun f => f), (show Keep y2 _ Nope from (by (repeat (first | exact Keep.refl _ _ | apply Keep.drew | apply Keep.drewN | apply Keep.alloc)))).cell kc (fun f => f)⟩
    refine tkP 0 ?_; refine tkP 1 ?_; refine tkH 2 ?_; refine tkP 3 ?_; refine tkP 4 ?_; refine tkH 5 ?_; refine tkP 6 ?_; refine tkP 7 ?_; refine tkH 8 ?_; refine tkP 9 ?_; refine tkC 10 ?_
    intro K hK
    go_simp
    refine hK.out _ _ ?_ (fun hHeld => ?_)
    · (try dsimp only); exact ⟨(show Keep y2 _ Nope from (by (repeat (first | exact Keep.refl _ _ | apply Keep.drew | apply Keep.drewN | apply Keep.alloc)))).cell kw (fun f => f), (show Keep y2 _ Nope from (by (repeat (first | exact Keep.refl _ _ | apply Keep.drew | apply Keep.drewN | apply Keep.alloc)))).cell kc (fun f => f)⟩
    clear hK K
    refine tkC 11 ?_
    intro K hK
    go_simp
    go_wp2_with ((go_at_call 218; refine (word_without 1 (by decide) 0 (by decide) _ _ (fun z => z = y2.heap.size) (by first | exact (rd_lit1 _ 0).drew | exact rd_lit1 _ 0)).mono ?_; rintro e w' ⟨rfl, rfl⟩; rw [show ((delW 1 0 : Nat) : Int) = 0 from rfl]))
    refine hK.out _ _ ?_ (fun hHeld => ?_)
    · (try dsimp only); exact ⟨(show Keep y2 _ Nope from (by (repeat (first | exact Keep.refl _ _ | apply Keep.drew | apply Keep.drewN | apply Keep.alloc)))).cell kw (fun f => f), (show Keep y2 _ Nope from (by (repeat (first | exact Keep.refl _ _ | apply Keep.drew | apply Keep.drewN | apply Keep.alloc)))).cell kc (fun f => f)⟩
    clear hK K
    refine tkP 12 ?_; refine tkP 13 ?_; refine tkF 14 ?_
    intro K hK
    go_simp
    refine hK.out _ _ ?_
    clear hK K
    refine wpAnyM_done (by kernel_rfl) ?_ _
    clear kw kc ka kf
    obtain ⟨z2, hz⟩ : ∃ z, ((y2.alloc (.cells #[(.int .i64 0)] 3)).setCell ⟨b2, 0, none⟩ (.int .u64 0)).drew = z := ⟨_, rfl⟩
    rw [hz] at HZ ⊢
    clear hz Hy2 hHeld
    have kw := (HZ.out.blk 0 rfl).cell 2
    simp at kw
    have kn : z2.cell? ⟨b2, 1, none⟩ = some (.pointer (some ⟨b1, 0, none⟩)) := by rw [(HZ.out.blk 2 rfl).cell]; rfl
    have kf := (HZ.out.blk 2 rfl).frozen 1
    have HY := Lib.hid (show St w0 (z2.setCell ⟨b2, 1, none⟩ (.pointer none)) (blkA w1.heap.size #[.pointer (some ⟨b0, 0, none⟩), .pointer (some ⟨b1, 0, none⟩), .pointer (some ⟨b2, 0, none⟩), .pointer (some ⟨b, 0, none⟩)] 335 :: [blkA b (setCs 1 (.pointer (some ⟨b2, 0, none⟩)) (pop m)) 316, blkA b2 (nodeCs 0 nilV) 313, blkA b1 (nodeCs 0 nilV) 313, blkA b0 (nodeCs 0 nilV) 313] ++ L.set p empA) from HZ.out.write 2 rfl 1 (.pointer none))
    have kw2 := (HY.out.blk 0 rfl).cell 2
    simp at kw2
    have kc2 : (z2.setCell ⟨b2, 1, none⟩ (.pointer none)).cell? ⟨b2, 0, none⟩ = some (.int .u64 0) := by rw [(HY.out.blk 2 rfl).cell]; rfl
    clear HZ
    go_wp2_with fail
    obtain ⟨y3, hy⟩ : ∃ y, z2.setCell ⟨b2, 1, none⟩ (.pointer none) = y := ⟨_, rfl⟩
    rw [hy] at HY ⊢
    have Hy3 := Lib.hid HY.out
    clear hy HY kw kn kf kw2 kc2
    have kw := (Hy3.out.blk 0 rfl).cell 3
    simp at kw
    have kc : y3.cell? ⟨b, 0, none⟩ = some (.int .u64 1) := by rw [(Hy3.out.blk 1 rfl).cell]; rfl
    have HA := Lib.hid (Hy3.out.alloc (.cells #[(.int .i64 0)] 3))
    have ka : (y3.alloc (.cells #[(.int .i64 0)] 3)).cell? ⟨b, 0, none⟩ = some (.int .u64 1) := by rw [(HA.out.blk 1 rfl).cell]; rfl
    have kf := (HA.out.blk 1 rfl).frozen 0
    have HZ := Lib.hid (show St w0 (((y3.alloc (.cells #[(.int .i64 0)] 3)).setCell ⟨b, 0, none⟩ (.int .u64 0)).drew) (blkA w1.heap.size #[.pointer (some ⟨b0, 0, none⟩), .pointer (some ⟨b1, 0, none⟩), .pointer (some ⟨b2, 0, none⟩), .pointer (some ⟨b, 0, none⟩)] 335 :: [blkA b (setCs 0 (.pointer (some ⟨b2, 0, none⟩)) (pop m)) 316, blkA b2 (nodeCs 0 nilV) 313, blkA b1 (nodeCs 0 nilV) 313, blkA b0 (nodeCs 0 nilV) 313] ++ L.set p empA) from (HA.out.write 1 rfl 0 (.int .u64 0)).drew)
    clear HA
    rw [rounds_succ]
    go_wp2_with (go_at_call 202; refine (HD.out 3 (by omega) (by omega) _).mono ?_; rintro e w' ⟨rfl, rfl⟩)
    refine wp_region_M (r := 14) (S := fun w' => w'.cell? ⟨w1.heap.size, 3, none⟩ = some (.pointer (some ⟨b, 0, none⟩)) ∧ w'.cell? ⟨b, 0, none⟩ = some (.int .u64 1)) (by kernel_rfl) ?_ (fun hHeld => ?_)
    · (try dsimp only); exact ⟨(show Keep y3 _ Nope from (by (repeat (first | exact Keep.refl _ _ | apply Keep.drew | apply Keep.drewN | apply Keep.alloc)))).cell kw (fun f => f), (show Keep y3 _ Nope from (by (repeat (first | exact Keep.refl _ _ | apply Keep.drew | apply Keep.drewN | apply Keep.alloc)))).cell kc (fun f => f)⟩
    refine tkP 0 ?_; refine tkP 1 ?_; refine tkH 2 ?_; refine tkP 3 ?_; refine tkP 4 ?_; refine tkH 5 ?_; refine tkP 6 ?_; refine tkP 7 ?_; refine tkH 8 ?_; refine tkP 9 ?_; refine tkC 10 ?_
    intro K hK
    go_simp
    refine hK.out _ _ ?_ (fun hHeld => ?_)
    · (try dsimp only); exact ⟨(show Keep y3 _ Nope from (by (repeat (first | exact Keep.refl _ _ | apply Keep.drew | apply Keep.drewN | apply Keep.alloc)))).cell kw (fun f => f), (show Keep y3 _ Nope from (by (repeat (first | exact Keep.refl _ _ | apply Keep.drew | apply Keep.drewN | apply Keep.alloc)))).cell kc (fun f => f)⟩
    clear hK K
    refine tkC 11 ?_
    intro K hK
    go_simp
    go_wp2_with ((go_at_call 218; refine (word_without 1 (by decide) 0 (by decide) _ _ (fun z => z = y3.heap.size) (by first | exact (rd_lit1 _ 0).drew | exact rd_lit1 _ 0)).mono ?_; rintro e w' ⟨rfl, rfl⟩; rw [show ((delW 1 0 : Nat) : Int) = 0 from rfl]))
    refine hK.out _ _ ?_ (fun hHeld => ?_)
    · (try dsimp only); exact ⟨(show Keep y3 _ Nope from (by (repeat (first | exact Keep.refl _ _ | apply Keep.drew | apply Keep.drewN | apply Keep.alloc)))).cell kw (fun f => f), (show Keep y3 _ Nope from (by (repeat (first | exact Keep.refl _ _ | apply Keep.drew | apply Keep.drewN | apply Keep.alloc)))).cell kc (fun f => f)⟩
    clear hK K
    refine tkP 12 ?_; refine tkP 13 ?_; refine tkF 14 ?_
    intro K hK
    go_simp
    refine hK.out _ _ ?_
    clear hK K
    refine wpAnyM_done (by kernel_rfl) ?_ _
    clear kw kc ka kf
    obtain ⟨z3, hz⟩ : ∃ z, ((y3.alloc (.cells #[(.int .i64 0)] 3)).setCell ⟨b, 0, none⟩ (.int .u64 0)).drew = z := ⟨_, rfl⟩
    rw [hz] at HZ ⊢
    clear hz Hy3 hHeld
    have kw := (HZ.out.blk 0 rfl).cell 3
    simp at kw
    have kn : z3.cell? ⟨b, 1, none⟩ = some (.pointer (some ⟨b2, 0, none⟩)) := by rw [(HZ.out.blk 1 rfl).cell]; rfl
    have kf := (HZ.out.blk 1 rfl).frozen 1
    have HY := Lib.hid (show St w0 (z3.setCell ⟨b, 1, none⟩ (.pointer none)) (blkA w1.heap.size #[.pointer (some ⟨b0, 0, none⟩), .pointer (some ⟨b1, 0, none⟩), .pointer (some ⟨b2, 0, none⟩), .pointer (some ⟨b, 0, none⟩)] 335 :: [blkA b (setCs 0 nilV (pop m)) 316, blkA b2 (nodeCs 0 nilV) 313, blkA b1 (nodeCs 0 nilV) 313, blkA b0 (nodeCs 0 nilV) 313] ++ L.set p empA) from HZ.out.write 1 rfl 1 (.pointer none))
    have kw2 := (HY.out.blk 0 rfl).cell 3
    simp at kw2
    have kc2 : (z3.setCell ⟨b, 1, none⟩ (.pointer none)).cell? ⟨b, 0, none⟩ = some (.int .u64 0) := by rw [(HY.out.blk 1 rfl).cell]; rfl
    clear HZ
    go_wp2_with fail
    obtain ⟨y4, hy⟩ : ∃ y, z3.setCell ⟨b, 1, none⟩ (.pointer none) = y := ⟨_, rfl⟩
    rw [hy] at HY ⊢
    have Hy4 := Lib.hid HY.out
    clear hy HY kw kn kf kw2 kc2
    rw [rounds_succ]
    have kc : y4.cell? ⟨b, 65, none⟩ = some (.int .i64 (pop m : Nat)) := by rw [(Hy4.out.blk 1 rfl).cell]; rfl
    have kf := (Hy4.out.blk 1 rfl).frozen 65
    have hp1 : pop m = 1 := by rw [pop_del hi hb, HDW.out, pop_zero]
    rw [hp1] at kc
    have h := (Hy4.out.write 1 rfl 65 (.int .i64 0)).rest
    have HH2 := Lib.hid h
    clear h
    go_wp2_with fail
    go_ret2
    refine ⟨rfl, ?_⟩
    rw [HDW.out]
    exact hib_fin HPL.out HH2.out
  · have e1 : (((delW m i : Nat) : Int) != 0) = true := by simp; exact hd
    have hpn : pop m ≤ 64 := pop_le m
    have HPD := Lib.hid (pop_del hi hb)
    have kw := (Hy0.out.blk 0 rfl).cell 0
    simp at kw
    have kc : y0.cell? ⟨b0, 0, none⟩ = some (.int .u64 (m : Int)) := by rw [(Hy0.out.blk 4 rfl).cell]; rfl
    have HA := Lib.hid (Hy0.out.alloc (.cells #[(.int .i64 (i : Int))] 3))
    have ka : (y0.alloc (.cells #[(.int .i64 (i : Int))] 3)).cell? ⟨b0, 0, none⟩ = some (.int .u64 (m : Int)) := by rw [(HA.out.blk 4 rfl).cell]; rfl
    have kf := (HA.out.blk 4 rfl).frozen 0
    have HZ := Lib.hid (show St w0 (((y0.alloc (.cells #[(.int .i64 (i : Int))] 3)).setCell ⟨b0, 0, none⟩ (.int .u64 (delW m i : Nat))).drew) (blkA w1.heap.size #[.pointer (some ⟨b0, 0, none⟩), .pointer (some ⟨b1, 0, none⟩), .pointer (some ⟨b2, 0, none⟩), .pointer (some ⟨b, 0, none⟩)] 335 :: [blkA b (setCs 1 (.pointer (some ⟨b2, 0, none⟩)) (pop m)) 316, blkA b2 (nodeCs 1 (.pointer (some ⟨b1, 0, none⟩))) 313, blkA b1 (nodeCs 1 (.pointer (some ⟨b0, 0, none⟩))) 313, blkA b0 (nodeCs (delW m i) nilV) 313] ++ L.set p empA) from (HA.out.write 4 rfl 0 (.int .u64 (delW m i : Nat))).drew)
    clear HA
    rw [rounds_succ]
    go_wp2_with (go_at_call 202; refine (HD0.out _).mono ?_; rintro e w' ⟨rfl, rfl⟩)
    refine wp_region_M (r := 14) (S := fun w' => w'.cell? ⟨w1.heap.size, 0, none⟩ = some (.pointer (some ⟨b0, 0, none⟩)) ∧ w'.cell? ⟨b0, 0, none⟩ = some (.int .u64 (m : Int))) (by kernel_rfl) ?_ (fun hHeld => ?_)
    · (try dsimp only); exact ⟨(show Keep y0 _ Nope from (by (repeat (first | exact Keep.refl _ _ | apply Keep.drew | apply Keep.drewN | apply Keep.alloc)))).cell kw (fun f => f), (show Keep y0 _ Nope from (by (repeat (first | exact Keep.refl _ _ | apply Keep.drew | apply Keep.drewN | apply Keep.alloc)))).cell kc (fun f => f)⟩
    refine tkP 0 ?_; refine tkP 1 ?_; refine tkH 2 ?_; refine tkP 3 ?_; refine tkP 4 ?_; refine tkH 5 ?_; refine tkP 6 ?_; refine tkP 7 ?_; refine tkH 8 ?_; refine tkP 9 ?_; refine tkC 10 ?_
    intro K hK
    go_simp
    refine hK.out _ _ ?_ (fun hHeld => ?_)
    · (try dsimp only); exact ⟨(show Keep y0 _ Nope from (by (repeat (first | exact Keep.refl _ _ | apply Keep.drew | apply Keep.drewN | apply Keep.alloc)))).cell kw (fun f => f), (show Keep y0 _ Nope from (by (repeat (first | exact Keep.refl _ _ | apply Keep.drew | apply Keep.drewN | apply Keep.alloc)))).cell kc (fun f => f)⟩
    clear hK K
    refine tkC 11 ?_
    intro K hK
    go_simp
    go_wp2_with ((go_at_call 218; refine (word_without m hm i hi _ _ (fun z => z = y0.heap.size) (by first | exact (rd_lit1 _ (i : Int)).drew | exact rd_lit1 _ (i : Int))).mono ?_; rintro e w' ⟨rfl, rfl⟩))
    refine hK.out _ _ ?_ (fun hHeld => ?_)
    · (try dsimp only); exact ⟨(show Keep y0 _ Nope from (by (repeat (first | exact Keep.refl _ _ | apply Keep.drew | apply Keep.drewN | apply Keep.alloc)))).cell kw (fun f => f), (show Keep y0 _ Nope from (by (repeat (first | exact Keep.refl _ _ | apply Keep.drew | apply Keep.drewN | apply Keep.alloc)))).cell kc (fun f => f)⟩
    clear hK K
    refine tkP 12 ?_; refine tkP 13 ?_; refine tkF 14 ?_
    intro K hK
    go_simp
    refine hK.out _ _ ?_
    clear hK K
    refine wpAnyM_done (by kernel_rfl) ?_ _
    clear kw kc ka kf
    obtain ⟨z0, hz⟩ : ∃ z, ((y0.alloc (.cells #[(.int .i64 (i : Int))] 3)).setCell ⟨b0, 0, none⟩ (.int .u64 (delW m i : Nat))).drew = z := ⟨_, rfl⟩
    rw [hz] at HZ ⊢
    clear hz Hy0 hHeld
    have kw := (HZ.out.blk 0 rfl).cell 0
    simp at kw
    have kn : z0.cell? ⟨b0, (1 + i), none⟩ = some (.pointer none) := by rw [(HZ.out.blk 4 rfl).cell]; exact node_kid _ i hi
    have kf := (HZ.out.blk 4 rfl).frozen (1 + i)
    have HY := Lib.hid (show St w0 (z0.setCell ⟨b0, (1 + i), none⟩ (.pointer none)) (blkA w1.heap.size #[.pointer (some ⟨b0, 0, none⟩), .pointer (some ⟨b1, 0, none⟩), .pointer (some ⟨b2, 0, none⟩), .pointer (some ⟨b, 0, none⟩)] 335 :: [blkA b (setCs 1 (.pointer (some ⟨b2, 0, none⟩)) (pop m)) 316, blkA b2 (nodeCs 1 (.pointer (some ⟨b1, 0, none⟩))) 313, blkA b1 (nodeCs 1 (.pointer (some ⟨b0, 0, none⟩))) 313, blkA b0 (nodeCs (delW m i) nilV) 313] ++ L.set p empA) by have h := HZ.out.write 4 rfl (1 + i) (.pointer none); rw [node_same _ i hi] at h; exact h)
    have kw2 := (HY.out.blk 0 rfl).cell 0
    simp at kw2
    have kc2 : (z0.setCell ⟨b0, (1 + i), none⟩ (.pointer none)).cell? ⟨b0, 0, none⟩ = some (.int .u64 (delW m i : Nat)) := by rw [(HY.out.blk 4 rfl).cell]; rfl
    clear HZ
    have k65 : (z0.setCell ⟨b0, (1 + i), none⟩ (.pointer none)).cell? ⟨b, 65, none⟩ = some (.int .i64 (pop m : Nat)) := by rw [(HY.out.blk 1 rfl).cell]; rfl
    have f65 := (HY.out.blk 1 rfl).frozen 65
    go_wp2_with fail
    go_ret2
    refine ⟨rfl, St.hibJoin hd ⟨b2, b1, b0⟩ p HPL.out ?_⟩
    have h := (HY.out.write 1 rfl 65 (.int .i64 ((pop (delW m i) : Nat) : Int))).rest
    rw [show ((pop m : Nat) : Int) - 1 = ((pop (delW m i) : Nat) : Int) by have := HPD.out; omega]
    exact h
end Go.Proofs.YtkiikblpgppmkaaGreatDoor
