/-
  The package dense: Put.
-/
import Derived.Test.YtkiikblpgppmkaaGreatDoorTlM12
import Derived.Test.YtkiikblpgppmkaaGreatDoorTlM02
namespace Go.Proofs.YtkiikblpgppmkaaGreatDoor
open Go Go.RowKit
set_option linter.unusedVariables false
set_option linter.unusedSimpArgs false

theorem slDr : SlTy Tryz.prog 429 501 4 32 := SlTy.mk' (.agg #[.int .i64 0, .int .i64 0, .int .i64 0, .int .i64 0]) Tryz.underlying429 (by kernel_rfl) rfl (by decide)
theorem row_set : ∀ (l : List RowV) (p k : Nat) (v0 v : VV), l[p]? = some ⟨k, v0⟩ → setL (flatRow l) (p * 4 + 1) [.int .i64 v.k, .int .i64 v.a, .int .i64 v.b] = flatRow (l.set p ⟨k, v⟩)
  | [], p, k, v0, v, h => by simp at h
  | x :: l, 0, k, v0, v, h => by
    simp at h
    subst h
    rfl
  | x :: l, p + 1, k, v0, v, h => by
    have ih := row_set l p k v0 v (by simpa using h)
    have e : (p + 1) * 4 + 1 = p * 4 + 1 + 4 := by omega
    rw [e, List.set_cons_succ]
    show setL (.int .i64 (x.i : Nat) :: .int .i64 x.v.k :: .int .i64 x.v.a :: .int .i64 x.v.b :: flatRow l) (p * 4 + 1 + 4) _ = .int .i64 (x.i : Nat) :: .int .i64 x.v.k :: .int .i64 x.v.a :: .int .i64 x.v.b :: flatRow (l.set p ⟨k, v⟩)
    rw [← ih]
    rfl
def RetDen (w0 : World) (R : List Asr) (b m : Nat) (f : Nat → VV) (v : Value) (e : Ending) (w' : World) : Prop := e = .returned v ∧ ∃ (l : List RowV) (D : MapD) (q : DenB), DenOk l D m f ∧ St w0 w' (denL b l D q ++ R)
set_option maxRecDepth 100000 in
set_option maxHeartbeats 2000000 in
theorem den_put1 {w0 w : World} {R : List Asr} {b m : Nat} {l : List RowV} {D : MapD} {q : DenB} {f : Nat → VV} (H : St w0 w (denL b l D q ++ R)) (hD : DenOk l D m f) (hm : m < 2 ^ 64) (k : Nat) (hk : k < 64) (v : VV) (hb : m.testBit k = true) :
    Calls Tryz.prog 385 #[ptr b, .int .i64 (k : Nat), v.val] w (RetDen w0 R b (addW m k) (updV f k v) (.tuple #[(f k).val, .bool true])) := by
  obtain ⟨bm, a, c⟩ := q
  obtain ⟨vk, va, vb⟩ := v
  have HB := H.box2 #[.int .i64 vk, .int .i64 va, .int .i64 vb] #[.int .i64 0, .int .i64 0, .int .i64 0] 34 34
  obtain ⟨wa, hwa⟩ : ∃ wa, (w.alloc (.cells #[.int .i64 vk, .int .i64 va, .int .i64 vb] 34)).alloc (.cells #[.int .i64 0, .int .i64 0, .int .i64 0] 34) = wa := ⟨_, rfl⟩
  rw [hwa] at HB
  obtain ⟨pc, hrun, hat⟩ := OwnsI.look (HB.mapOwn 4 rfl) k (by omega)
  rw [hD.has, hb] at hrun
  obtain ⟨p, rfl, hp⟩ := hD.find hb hat
  have HDS := Lib.hid (hD.set hm hp ⟨vk, va, vb⟩)
  have HRS := Lib.hid (row_set l p k _ ⟨vk, va, vb⟩ hp)
  have hpl := (List.getElem?_eq_some_iff.1 hp).1
  have hle := hD.le
  obtain ⟨⟨k0, a0, b0⟩, hv⟩ : ∃ v, f k = v := ⟨_, rfl⟩
  rw [hv] at hp ⊢
  obtain ⟨G, hown, _, _⟩ := HB.rd 3 rfl
  obtain ⟨g, rfl, _, _, _, hc, _⟩ := hown.head (Nat.lt_of_le_of_lt (Nat.zero_le p) hpl)
  have hc2 : ∀ j, j < 4 → wa.cell? ⟨g, p * 4 + j, none⟩ = (RowV.cells ⟨k, ⟨k0, a0, b0⟩⟩)[j]? := fun j hj => by
    have h1 : p * 4 + 4 ≤ l.length * 4 := by omega
    rw [hc (p * 4 + j) (by omega)]
    exact flat_get RowV.cells 4 (fun _ => rfl) l p j _ hp hj
  have x1 : wa.cell? ⟨g, p * 4 + 1, none⟩ = some (.int .i64 k0) := hc2 1 (by decide)
  have x2 : wa.cell? ⟨g, p * 4 + 1 + 1, none⟩ = some (.int .i64 a0) := hc2 2 (by decide)
  have x3 : wa.cell? ⟨g, p * 4 + 1 + 2, none⟩ = some (.int .i64 b0) := hc2 3 (by decide)
  have c1 : wa.cell? ⟨b, 1, none⟩ = some (.map (some bm)) := by rw [(HB.blk 2 rfl).cell]; rfl
  have HBH := Lib.hid HB
  obtain ⟨n, hn⟩ : ∃ n, l.length = n := ⟨_, rfl⟩
  have c0 : wa.cell? ⟨b, 0, none⟩ = some (.slice (some ⟨g, 0, none⟩) n c) := by rw [← hn, (HB.blk 2 rfl).cell]; rfl
  rw [hn] at hpl hle
  have HNN := Lib.hid hn
  have e0 : decide (n ≤ p) = false := decide_eq_false (by omega)
  have e1 : decide ((k : Int) < 0) = false := decide_eq_false (by omega)
  have e2 : decide ((k : Int) ≥ 65536) = false := decide_eq_false (by omega)
  have HP := Lib.hid hpl
  clear H HB hD hat hb hp hv hn hown hc hc2 hpl
  unfold ptr VV.val
  go_enter Tryz.func385, Tryz.ntmps385
  go_upto_region 1 with fail
  try rw [hwa]
  clear hwa
  go_upto_region 6 with fail
  have h6 := HBH.out.box0 #[.int .i64 k0, .int .i64 a0, .int .i64 b0] 34
  obtain ⟨wb, hwb⟩ : ∃ wb, wa.alloc (.cells #[.int .i64 k0, .int .i64 a0, .int .i64 b0] 34) = wb := ⟨_, rfl⟩
  rw [hwb] at h6 ⊢
  clear x1 x2 x3 c0 c1 hrun
  have c0 : wb.cell? ⟨b, 0, none⟩ = some (.slice (some ⟨g, 0, none⟩) n c) := by rw [← HNN.out, (h6.blk 3 rfl).cell]; rfl
  have v0 : wb.cell? ⟨w.heap.size, 0, none⟩ = some (.int .i64 vk) := by rw [(h6.blk 2 rfl).cell]; rfl
  have v1 : wb.cell? ⟨w.heap.size, 1, none⟩ = some (.int .i64 va) := by rw [(h6.blk 2 rfl).cell]; rfl
  have v2 : wb.cell? ⟨w.heap.size, 2, none⟩ = some (.int .i64 vb) := by rw [(h6.blk 2 rfl).cell]; rfl
  have H6 := Lib.hid h6
  clear hwb h6 HBH
  refine wp_region_M (r := 9) (S := fun w' => w'.cell? ⟨b, 0, none⟩ = some (.slice (some ⟨g, 0, none⟩) n c) ∧ w'.cell? ⟨w.heap.size, 0, none⟩ = some (.int .i64 vk) ∧ w'.cell? ⟨w.heap.size, 1, none⟩ = some (.int .i64 va) ∧ w'.cell? ⟨w.heap.size, 2, none⟩ = some (.int .i64 vb)) (by kernel_rfl) ?_ (fun hHeld => ?_)
  · (try dsimp only); exact ⟨c0, v0, v1, v2⟩
  refine tkP 0 ?_; refine tkP 1 ?_; refine tkP 2 ?_; refine tkP 3 ?_; refine tkH 4 ?_; refine tkP 5 ?_; refine tkH 6 ?_; refine tkP 7 ?_; refine tkP 8 ?_; refine tkF 9 ?_
  intro K hK
  rw [if_pos (by rfl)]
  (refine St.stepMid (i := 4) (H6.out.drew) rfl (by have := HP.out; have := HNN.out; omega) 34 _ _ rfl (p * 4 + 1) #[.int .i64 vk, .int .i64 va, .int .i64 vb] rfl rfl (by kernel_rfl) (by kernel_rfl) (by have := HP.out; have := HNN.out; show p * 4 + 1 + 3 ≤ l.length * 4; omega) ?_; intro w5 h5; have H5 := Lib.hid h5; clear h5)
  refine hK.out _ _ ?_
  clear hK K
  (try simp only [List.getElem_toArray, List.getElem_cons_succ, List.getElem_cons_zero, Act.put, List.setIfInBounds_toArray, List.set_cons_zero, List.set_cons_succ])
  refine wpAnyM_done (by kernel_rfl) ?_ _
  have h5 := H5.out
  simp only [List.set_cons_succ, List.set_cons_zero] at h5
  have H5' := Lib.hid h5
  obtain ⟨x1, x2, x3, _, _, _⟩ := (h5.blk 0 rfl).three
  obtain ⟨z1, z2, z3, y1, y2, y3⟩ := (h5.blk 1 rfl).three
  clear h5 H5 c0 v0 v1 v2 hHeld H6
  go_wp2_with fail
  have h7 := ((H5'.out.write 1 rfl 0 (.int .i64 k0)).write 1 rfl 1 (.int .i64 a0)).write 1 rfl 2 (.int .i64 b0)
  obtain ⟨w6, hw6⟩ : ∃ w6, ((w5.setCell ⟨w.heap.size + 1, 0, none⟩ (.int .i64 k0)).setCell ⟨w.heap.size + 1, 1, none⟩ (.int .i64 a0)).setCell ⟨w.heap.size + 1, 2, none⟩ (.int .i64 b0) = w6 := ⟨_, rfl⟩
  rw [hw6] at h7
  try rw [hw6]
  obtain ⟨z1, z2, z3, _, _, _⟩ := (show Blk w6 (w.heap.size + 1) #[.int .i64 k0, .int .i64 a0, .int .i64 b0] 34 from h7.blk 1 rfl).three
  refine bodyPost_ret (v := .tuple #[.agg #[.int .i64 k0, .int .i64 a0, .int .i64 b0], .bool true]) (by simp [results, Tryz.results385, go_sem, z1, z2, z3]) rfl ⟨rfl, l.set p ⟨k, ⟨vk, va, vb⟩⟩, D, ⟨bm, some ⟨g, 0, none⟩, c⟩, HDS.out, ?_⟩
  unfold denL
  rw [List.length_set, ← HRS.out]
  exact h7.rest.rest.rest
set_option maxRecDepth 100000 in
set_option maxHeartbeats 4000000 in
theorem den_put2 {w0 w : World} {R : List Asr} {b m : Nat} {l : List RowV} {D : MapD} {q : DenB} {f : Nat → VV} (H : St w0 w (denL b l D q ++ R)) (hD : DenOk l D m f) (hm : m < 2 ^ 64) (k : Nat) (hk : k < 64) (v : VV) (hb : m.testBit k = false) :
    Calls Tryz.prog 385 #[ptr b, .int .i64 (k : Nat), v.val] w (RetDen w0 R b (addW m k) (updV f k v) (.tuple #[zVV.val, .bool false])) := by
  obtain ⟨bm, a, c⟩ := q
  obtain ⟨vk, va, vb⟩ := v
  have HB := H.box2 #[.int .i64 vk, .int .i64 va, .int .i64 vb] #[.int .i64 0, .int .i64 0, .int .i64 0] 34 34
  obtain ⟨wa, hwa⟩ : ∃ wa, (w.alloc (.cells #[.int .i64 vk, .int .i64 va, .int .i64 vb] 34)).alloc (.cells #[.int .i64 0, .int .i64 0, .int .i64 0] 34) = wa := ⟨_, rfl⟩
  rw [hwa] at HB
  obtain ⟨pc, hrun, hat⟩ := OwnsI.look (HB.mapOwn 4 rfl) k (by omega)
  rw [hD.has, hb] at hrun
  have hDA := hD.add hm hk hb ⟨vk, va, vb⟩
  have hsz : Maps.size (D.put (iK (k : Nat)) (iD (l.length : Nat))) ≤ 64 := by rw [hDA.size]; exact hDA.le
  have hle : l.length + 1 ≤ 64 := by have := hDA.le; rw [List.length_append] at this; exact this
  have c0 : wa.cell? ⟨b, 0, none⟩ = some (.slice a l.length c) := by rw [(HB.blk 2 rfl).cell]; rfl
  have c1 : wa.cell? ⟨b, 1, none⟩ = some (.map (some bm)) := by rw [(HB.blk 2 rfl).cell]; rfl
  obtain ⟨n, hn⟩ : ∃ n, l.length = n := ⟨_, rfl⟩
  rw [hn] at c0 hle hDA hsz
  have HNN := Lib.hid hn
  have HDA := Lib.hid hDA
  have HSZ := Lib.hid hsz
  have HBH := Lib.hid HB
  have e1 : decide ((k : Int) < 0) = false := decide_eq_false (by omega)
  have e2 : decide ((k : Int) ≥ 65536) = false := decide_eq_false (by omega)
  clear H HB hD hat hb hn hDA hsz
  unfold ptr VV.val zVV
  go_enter Tryz.func385, Tryz.ntmps385
  go_upto_region 8 with fail
  try rw [hwa]
  clear hwa hrun
  refine wp_region_M (r := 12) (S := fun w' => w'.cell? ⟨b, 0, none⟩ = some (.slice a n c) ∧ w'.cell? ⟨b, 1, none⟩ = some (.map (some bm))) (by kernel_rfl) ?_ (fun hHeld => ?_)
  · (try dsimp only); exact ⟨c0, c1⟩
  refine tkP 0 ?_; refine tkP 1 ?_; refine tkP 2 ?_; refine tkP 3 ?_; refine tkH 4 ?_; refine tkP 5 ?_; refine tkP 6 ?_; refine tkP 7 ?_; refine tkP 8 ?_; refine tkP 9 ?_; refine tkH 10 ?_; refine tkP 11 ?_; refine tkF 12 ?_
  intro K hK
  rw [if_pos (by rfl)]
  (refine step_mapPut (HBH.out.drew) 4 rfl _ _ _ rfl k n rfl rfl rfl (by omega) (by omega) HSZ.out ?_; intro w5 h5; have H5 := Lib.hid h5; clear h5 HBH)
  refine hK.out _ _ ?_
  clear hK K
  (try simp only [List.getElem_toArray, List.getElem_cons_succ, List.getElem_cons_zero, Act.put, List.setIfInBounds_toArray, List.set_cons_zero, List.set_cons_succ])
  refine wpAnyM_done (by kernel_rfl) ?_ _
  have h5 := H5.out
  simp only [List.set_cons_succ, List.set_cons_zero] at h5
  have H5' := Lib.hid (show St w0 w5 (blkA (w.heap.size + 1) #[.int .i64 0, .int .i64 0, .int .i64 0] 34 :: blkA w.heap.size #[.int .i64 vk, .int .i64 va, .int .i64 vb] 34 :: blkA b #[.slice a l.length c, .map (some bm)] 433 :: slA 501 4 (.slice a l.length c) l.length (flatRow l) :: mapA bm (D.put (iK (k : Nat)) (iD (n : Nat))) :: R) from h5)
  clear h5 H5 c0 c1 hHeld
  go_upto_region 9 with fail
  have c0 : w5.cell? ⟨b, 0, none⟩ = some (.slice a n c) := by rw [← HNN.out, (H5'.out.blk 2 rfl).cell]; rfl
  obtain ⟨v0, v1, v2, _, _, _⟩ := (H5'.out.blk 1 rfl).three
  obtain ⟨G, hown, _, hup, _⟩ := H5'.out.drew.opens 3 rfl
  have HOwn := Lib.hid (show Own G w5.drew 501 4 (.slice a n c) n (flatRow l) from HNN.out ▸ hown)
  have HUP := Lib.hid hup
  clear hown hup
  refine wp_region_M (r := 11) (S := fun w' => w'.cell? ⟨b, 0, none⟩ = some (.slice a n c) ∧ w'.cell? ⟨w.heap.size, 0, none⟩ = some (.int .i64 vk) ∧ w'.cell? ⟨w.heap.size, 1, none⟩ = some (.int .i64 va) ∧ w'.cell? ⟨w.heap.size, 2, none⟩ = some (.int .i64 vb)) (by kernel_rfl) ?_ (fun hHeld => ?_)
  · (try dsimp only); (first | exact ⟨c0, v0, v1, v2⟩ | exact ⟨((Keep.refl _ Nope).alloc _).cell c0 (fun f => f), ((Keep.refl _ Nope).alloc _).cell v0 (fun f => f), ((Keep.refl _ Nope).alloc _).cell v1 (fun f => f), ((Keep.refl _ Nope).alloc _).cell v2 (fun f => f)⟩)
  refine tkP 0 ?_; refine tkP 1 ?_; refine tkP 2 ?_; refine tkP 3 ?_; refine tkP 4 ?_; refine tkH 5 ?_; refine tkP 6 ?_; refine tkH 7 ?_; refine tkP 8 ?_; refine tkC 9 ?_
  intro K hK
  go_simp
  refine hK.out _ _ ?_ (fun hHeld => ?_)
  · (try dsimp only); (first | exact ⟨c0, v0, v1, v2⟩ | exact ⟨((Keep.refl _ Nope).alloc _).cell c0 (fun f => f), ((Keep.refl _ Nope).alloc _).cell v0 (fun f => f), ((Keep.refl _ Nope).alloc _).cell v1 (fun f => f), ((Keep.refl _ Nope).alloc _).cell v2 (fun f => f)⟩)
  clear hK K
  refine tkC 10 ?_
  intro K hK
  rw [if_pos (by rfl)]
  (refine step_app (P := Tryz.prog) slDr _ _ rfl (S := G) (S2 := fun z => z = w5.drew.heap.size) (n := n) (xs := flatRow l) (m := 1) (news := RowV.cells ⟨k, ⟨vk, va, vb⟩⟩) rfl rfl ?_ (Own.lit (S := fun z => z = w5.drew.heap.size) w5.drew 501 4 1 #[.int .i64 (k : Nat), .int .i64 vk, .int .i64 va, .int .i64 vb] (by decide) rfl rfl).rd rfl (by intro u hu; simp [RowV.cells] at hu; rcases hu with rfl | rfl | rfl | rfl <;> rfl) (by omega) (by unfold maxLen; omega) ?_; (· exact HOwn.out.keep (T := Nope) ((Keep.refl w5.drew Nope).alloc _) (fun _ _ f => f)); intro a' k' c' w6 happ; obtain ⟨z1, z2⟩ := app_up (wr := w5.drew) ((Keep.refl w5.drew Nope).alloc _) happ; obtain rfl := happ.num; have h6 := HUP.out w6 _ z1 z2; have H6 := Lib.hid h6; clear happ z1 z2 h6; have c0 : w6.cell? ⟨b, 0, none⟩ = some (.slice a n c) := (by rw [← HNN.out, (H6.out.blk 2 rfl).cell]; rfl); have y0 := (H6.out.blk 2 rfl).frozen 0; obtain ⟨v0, v1, v2, _, _, _⟩ := (H6.out.blk 1 rfl).three)
  refine hK.out _ _ ?_ (fun hHeld => ?_)
  · (try dsimp only); (first | exact ⟨c0, v0, v1, v2⟩ | exact ⟨((Keep.refl _ Nope).alloc _).cell c0 (fun f => f), ((Keep.refl _ Nope).alloc _).cell v0 (fun f => f), ((Keep.refl _ Nope).alloc _).cell v1 (fun f => f), ((Keep.refl _ Nope).alloc _).cell v2 (fun f => f)⟩)
  clear hK K
  (try simp only [List.getElem_toArray, List.getElem_cons_succ, List.getElem_cons_zero, Act.put, List.setIfInBounds_toArray, List.set_cons_zero, List.set_cons_succ])
  refine tkF 11 ?_
  intro K hK
  go_simp
  refine hK.out _ _ ?_
  clear hK K
  refine tkP 12 ?_; refine tkP 13 ?_; refine tkF 14 ?_
  intro K hK
  go_simp
  refine hK.out _ _ ?_
  clear hK K
  refine wpAnyM_done (by kernel_rfl) ?_ _
  have H7 := Lib.hid (H6.out.write 2 rfl 0 (.slice a' (n + 1) c'))
  obtain ⟨w7, hw7⟩ : ∃ w7, w6.setCell ⟨b, 0, none⟩ (.slice a' (n + 1) c') = w7 := ⟨_, rfl⟩
  rw [hw7] at H7 ⊢
  clear hw7 hHeld c0 v0 v1 v2 y0
  obtain ⟨z1, z2, z3, y1, y2, y3⟩ := (H7.out.blk 0 rfl).three
  go_wp2_with fail
  have h8 := ((H7.out.write 0 rfl 0 (.int .i64 0)).write 0 rfl 1 (.int .i64 0)).write 0 rfl 2 (.int .i64 0)
  obtain ⟨w8, hw8⟩ : ∃ w8, ((w7.setCell ⟨w.heap.size + 1, 0, none⟩ (.int .i64 0)).setCell ⟨w.heap.size + 1, 1, none⟩ (.int .i64 0)).setCell ⟨w.heap.size + 1, 2, none⟩ (.int .i64 0) = w8 := ⟨_, rfl⟩
  rw [hw8] at h8
  try rw [hw8]
  obtain ⟨z1, z2, z3, _, _, _⟩ := (show Blk w8 (w.heap.size + 1) #[.int .i64 0, .int .i64 0, .int .i64 0] 34 from h8.blk 0 rfl).three
  refine bodyPost_ret (v := .tuple #[.agg #[.int .i64 0, .int .i64 0, .int .i64 0], .bool false]) (by simp [results, Tryz.results385, go_sem, z1, z2, z3]) rfl ⟨rfl, l ++ [⟨k, ⟨vk, va, vb⟩⟩], _, ⟨bm, a', c'⟩, HDA.out, ?_⟩
  have hl : (l ++ [(⟨k, ⟨vk, va, vb⟩⟩ : RowV)]).length = n + 1 := by rw [List.length_append, HNN.out]; rfl
  unfold denL
  rw [hl, flatRow_app]
  exact h8.rest.rest
end Go.Proofs.YtkiikblpgppmkaaGreatDoor
