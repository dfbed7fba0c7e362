/-
  The document's table of slots: a put.
-/
import Derived.Test.YtcmbbkaioopkhaaHash10
namespace Go.Proofs.Ytcmbbkaioopkhaa
open Go Go.RowKit
set_option linter.unusedVariables false
set_option linter.unusedSimpArgs false

set_option maxHeartbeats 1000000 in
theorem rh_put_no {w0 w : World} {L : List Asr} (H : St w0 w L) (b : Nat) (x : Int) (hx : ¬ (0 ≤ x ∧ x < 65536)) (vk va vb : Int) :
    Calls Try.prog 29 #[.pointer (some ⟨b, 0, none⟩), .int .i64 x, .agg #[.int .i64 vk, .int .i64 va, .int .i64 vb]] w (fun e w' => (∃ v, e = .returned v) ∧ St w0 w' L) := by
  have hA := (H.box #[.int .i64 vk, .int .i64 va, .int .i64 vb] 67).box #[.int .i64 0, .int .i64 0, .int .i64 0] 67
  rw [World.size_alloc, List.append_assoc] at hA
  have hb := hA.blk (L.length + 1) (b := w.heap.size + 1) (tail_get _ _ _ 1 rfl)
  have hI := ref_index x ((w.alloc (.cells #[.int .i64 vk, .int .i64 va, .int .i64 vb] 67)).alloc (.cells #[.int .i64 0, .int .i64 0, .int .i64 0] 67))
  rw [decide_eq_false hx] at hI
  have HI := Lib.hid hI
  have HA := Lib.hid hA
  have e0 := hb.cell 0
  have e1 := hb.cell 1
  have e2 := hb.cell 2
  have y0 := hb.frozen 0
  have y1 := hb.frozen 1
  have y2 := hb.frozen 2
  simp at e0 e1 e2
  have HB := Lib.hid hb
  clear H hA hb hI
  go_enter Try.func29, Try.ntmps29
  go_wp2_with fail
  refine (HI.out).mono ?_
  rintro e w2 ⟨rfl, rfl⟩
  clear HI
  go_wp2_with fail
  have h9 := HA.out.take L.length
  rw [List.take_left' rfl] at h9
  refine bodyPost_ret (v := .tuple #[.agg #[.int .i64 0, .int .i64 0, .int .i64 0], .bool false]) (by simp [results, Try.results29, go_sem, e0, e1, e2]) rfl ⟨⟨_, rfl⟩, h9⟩

set_option maxRecDepth 3000 in
set_option maxHeartbeats 2000000 in
theorem rh_put_old {w0 w : World} {L : List Asr} {b : Nat} {l : List SlotV} (H : St w0 w L) (i : Nat) (hi : L[i]? = some (rhA b l)) (hT : Tab hmO l) (hP : Pow l.length) (x : Int) (h0 : 0 ≤ x) (h1 : x < 65536) (vk va vb : Int) (p : Nat) (hp : p < l.length) (hf : findS hmO l x = ((p : Int), -1)) (hk1 : (sl l p).kind = 1) (hk2 : (sl l p).idx = x) :
    Calls Try.prog 29 #[.pointer (some ⟨b, 0, none⟩), .int .i64 x, .agg #[.int .i64 vk, .int .i64 va, .int .i64 vb]] w (fun e w' => (∃ v, e = .returned v) ∧ St w0 w' (L.set i (rhA b (l.set p ⟨1, x, vk, va, vb⟩)))) := by
  have HIL := Lib.hid (List.getElem?_eq_some_iff.1 hi).1
  have hA := (H.box #[.int .i64 vk, .int .i64 va, .int .i64 vb] 67).box #[.int .i64 0, .int .i64 0, .int .i64 0] 67
  rw [World.size_alloc, List.append_assoc] at hA
  have hi2 : (L ++ ([blkA w.heap.size #[.int .i64 vk, .int .i64 va, .int .i64 vb] 67] ++ [blkA (w.heap.size + 1) #[.int .i64 0, .int .i64 0, .int .i64 0] 67]))[i]? = some (rhA b l) := by rw [List.getElem?_append_left HIL.out]; exact hi
  have hI := ref_index x ((w.alloc (.cells #[.int .i64 vk, .int .i64 va, .int .i64 vb] 67)).alloc (.cells #[.int .i64 0, .int .i64 0, .int .i64 0] 67))
  rw [decide_eq_true ⟨h0, h1⟩] at hI
  have HI := Lib.hid hI
  have hS := rh_seek hA i hi2 hT hP x h0 h1
  rw [hf] at hS
  unfold seekV at hS
  rw [if_pos (by simp)] at hS
  have HS := Lib.hid hS
  have HII := Lib.hid hi
  have HPL := Lib.hid hT.pos
  have HA := Lib.hid hA
  have hlb := hP.pos.2
  have HP := Lib.hid hp
  obtain ⟨n, hn⟩ : ∃ n, l.length = n := ⟨_, rfl⟩
  have HN := Lib.hid hn
  have hpi : (p : Int) < n := by omega
  rw [hn] at hlb
  have HK1 := Lib.hid hk1
  have HK2 := Lib.hid hk2
  clear H hi hA hi2 hI hS hT hP hk1 hk2 hf hn hp
  go_enter Try.func29, Try.ntmps29
  go_wp2_with fail
  refine (HI.out).mono ?_
  rintro e w2 ⟨rfl, rfl⟩
  clear HI
  go_wp2_with fail
  refine (HS.out).mono ?_
  rintro e w3 ⟨rfl, hk3⟩
  have H3 := Lib.hid (HA.out.keep hk3); clear hk3 HS HA
  obtain ⟨g, c, ho⟩ := rh_open H3.out i (by rw [List.getElem?_append_left HIL.out]; exact HII.out) HPL.out
  obtain ⟨_, _, y2, y3, y4⟩ := ho.cell p HP.out
  have c2 := ho.ptr
  rw [HN.out] at c2
  obtain ⟨s, hs⟩ : ∃ s, sl l p = s := ⟨_, rfl⟩
  rw [hs] at y2 y3 y4
  obtain ⟨sk, sx, sa, sb, sc⟩ := s
  simp only at y2 y3 y4
  have hcap := ho.cap
  rw [HN.out] at hcap
  unfold maxLen at hcap
  clear ho hs
  go_upto_region 6 with (fail)
  have h4 := H3.out.box #[.int .i64 sa, .int .i64 sb, .int .i64 sc] 67
  rw [List.append_assoc] at h4
  have H4 := Lib.hid h4
  obtain ⟨w4, hw4⟩ : ∃ w4, w4 = w3.alloc (.cells #[.int .i64 sa, .int .i64 sb, .int .i64 sc] 67) := ⟨_, rfl⟩
  rw [← hw4] at H4 ⊢
  clear h4 y2 y3 y4 c2 hw4
  obtain ⟨bo, hbo⟩ : ∃ bo, w3.heap.size = bo := ⟨_, rfl⟩
  rw [hbo] at H4 ⊢
  clear hbo H3
  obtain ⟨g2, c2', ho⟩ := rh_open H4.out i (by rw [List.getElem?_append_left HIL.out]; exact HII.out) HPL.out
  obtain ⟨_, _, y2, y3, y4⟩ := ho.cell p HP.out
  have cp := ho.ptr
  rw [HN.out] at cp
  have hcap2 := ho.cap
  rw [HN.out] at hcap2
  unfold maxLen at hcap2
  have z2 := ho.frz (p * 5 + 2)
  have z3 := ho.frz (p * 5 + 3)
  have z4 := ho.frz (p * 5 + 4)
  have h5 := ho.val p HP.out vk va vb
  rw [List.set_append_left _ _ HIL.out, HK1.out, HK2.out] at h5
  have q0 := (H4.out.blk (L.length + 0) (b := w.heap.size) (tail_get _ _ _ 0 rfl)).cell 0
  have q1 := (H4.out.blk (L.length + 0) (b := w.heap.size) (tail_get _ _ _ 0 rfl)).cell 1
  have q2 := (H4.out.blk (L.length + 0) (b := w.heap.size) (tail_get _ _ _ 0 rfl)).cell 2
  simp at q0 q1 q2
  clear ho
  refine wp_region_M (r := 6) (S := fun w' => w'.cell? ⟨b, 0, none⟩ = some (.slice (some ⟨g2, 0, none⟩) n c2') ∧ w'.cell? ⟨w.heap.size, 0, none⟩ = some (.int .i64 vk) ∧ w'.cell? ⟨w.heap.size, 1, none⟩ = some (.int .i64 va) ∧ w'.cell? ⟨w.heap.size, 2, none⟩ = some (.int .i64 vb)) (by kernel_rfl) ?_ (fun hHeld => ?_)
  · (try dsimp only); go_keep
  (refine wpAnyM_takeP (i := 0) (oi := ?_) (v := ?_) ?_ ?_ ?_ ?_ ?_ ?_ ?_ ?_ ?_; rotate_left 2; (· simp only [List.getElem?_toArray, List.getElem?_cons_succ, List.getElem?_cons_zero]; exact rfl); (· kernel_rfl); (· kernel_rfl); (· kernel_rfl); (· kernel_rfl); (· first | exact fun _ _ _ h => h | exact fun _ _ _ h => (HPan.out _ _ _ h).elim); (· (refine Or.inl ⟨by rfl, ?_⟩; (intro w hSw; (try dsimp only at hSw); go_simp) <;> with_reducible rfl)); (· exact fun _ => hHeld); simp only [Act.put, List.setIfInBounds_toArray, List.set_cons_zero, List.set_cons_succ])
  (refine wpAnyM_takeP (i := 1) (oi := ?_) (v := ?_) ?_ ?_ ?_ ?_ ?_ ?_ ?_ ?_ ?_; rotate_left 2; (· simp only [List.getElem?_toArray, List.getElem?_cons_succ, List.getElem?_cons_zero]; exact rfl); (· kernel_rfl); (· kernel_rfl); (· kernel_rfl); (· kernel_rfl); (· first | exact fun _ _ _ h => h | exact fun _ _ _ h => (HPan.out _ _ _ h).elim); (· (refine Or.inl ⟨by rfl, ?_⟩; (intro w hSw; (try dsimp only at hSw); go_simp) <;> with_reducible rfl)); (· exact fun _ => hHeld); simp only [Act.put, List.setIfInBounds_toArray, List.set_cons_zero, List.set_cons_succ])
  (refine wpAnyM_takeP (i := 2) (oi := ?_) (v := ?_) ?_ ?_ ?_ ?_ ?_ ?_ ?_ ?_ ?_; rotate_left 2; (· simp only [List.getElem?_toArray, List.getElem?_cons_succ, List.getElem?_cons_zero]; exact rfl); (· kernel_rfl); (· kernel_rfl); (· kernel_rfl); (· kernel_rfl); (· first | exact fun _ _ _ h => h | exact fun _ _ _ h => (HPan.out _ _ _ h).elim); (· (refine Or.inl ⟨by rfl, ?_⟩; (intro w hSw; (try dsimp only at hSw); go_simp) <;> with_reducible rfl)); (· exact fun _ => hHeld); simp only [Act.put, List.setIfInBounds_toArray, List.set_cons_zero, List.set_cons_succ])
  (refine wpAnyM_take (i := 3) (oi := ?_) (v := ?_) ?_ ?_ ?_ ?_ ?_ ?_ ?_ ?_ ?_ ?_; rotate_left 2; (· simp only [List.getElem?_toArray, List.getElem?_cons_succ, List.getElem?_cons_zero]; exact rfl); (· kernel_rfl); (· kernel_rfl); (· kernel_rfl); (· kernel_rfl); (· kernel_rfl); (· first | exact fun _ _ _ h => h | exact fun _ _ _ h => (HPan.out _ _ _ h).elim); (· (refine Or.inl ⟨by rfl, ?_⟩; (intro w hSw; (try dsimp only at hSw); go_simp) <;> with_reducible rfl)); (· assumption); simp only [Act.put, List.setIfInBounds_toArray, List.set_cons_zero, List.set_cons_succ])
  (refine wpAnyM_takeP (i := 4) (oi := ?_) (v := ?_) ?_ ?_ ?_ ?_ ?_ ?_ ?_ ?_ ?_; rotate_left 2; (· simp only [List.getElem?_toArray, List.getElem?_cons_succ, List.getElem?_cons_zero]; exact rfl); (· kernel_rfl); (· kernel_rfl); (· kernel_rfl); (· kernel_rfl); (· first | exact fun _ _ _ h => h | exact fun _ _ _ h => (HPan.out _ _ _ h).elim); (· (refine Or.inl ⟨by rfl, ?_⟩; (intro w hSw; (try dsimp only at hSw); go_simp) <;> with_reducible rfl)); (· exact fun _ => hHeld); simp only [Act.put, List.setIfInBounds_toArray, List.set_cons_zero, List.set_cons_succ])
  (refine wpAnyM_take (i := 5) (oi := ?_) (v := ?_) ?_ ?_ ?_ ?_ ?_ ?_ ?_ ?_ ?_ ?_; rotate_left 2; (· simp only [List.getElem?_toArray, List.getElem?_cons_succ, List.getElem?_cons_zero]; exact rfl); (· kernel_rfl); (· kernel_rfl); (· kernel_rfl); (· kernel_rfl); (· kernel_rfl); (· first | exact fun _ _ _ h => h | exact fun _ _ _ h => (HPan.out _ _ _ h).elim); (· (refine Or.inl ⟨by rfl, ?_⟩; (intro w hSw; (try dsimp only at hSw); go_simp) <;> with_reducible rfl)); (· assumption); simp only [Act.put, List.setIfInBounds_toArray, List.set_cons_zero, List.set_cons_succ])
  refine wpAnyM_ready (rs := [6]) (by kernel_rfl) (by simp) ?_
  refine AllReadyM.free (o := ?_) ?_ (by kernel_rfl) ?_ ?_
  rotate_left 1
  · simp only [List.getElem?_toArray, List.getElem?_cons_succ, List.getElem?_cons_zero]; exact rfl
  rotate_left 1
  · exact AllReadyM.nil
  intro K hK
  go_simp
  refine hK.out _ _ ?_
  clear hK K
  (refine wpAnyM_takeP (i := 7) (oi := ?_) (v := ?_) ?_ ?_ ?_ ?_ ?_ ?_ ?_ ?_ ?_; rotate_left 2; (· simp only [List.getElem?_toArray, List.getElem?_cons_succ, List.getElem?_cons_zero]; exact rfl); (· kernel_rfl); (· kernel_rfl); (· kernel_rfl); (· kernel_rfl); (· first | exact fun _ _ _ h => h | exact fun _ _ _ h => (HPan.out _ _ _ h).elim); (· (refine Or.inl ⟨by rfl, ?_⟩; (intro w hSw; (try dsimp only at hSw); go_simp) <;> with_reducible rfl)); (· exact fun h => Bool.noConfusion (show true = false from h)); simp only [Act.put, List.setIfInBounds_toArray, List.set_cons_zero, List.set_cons_succ])
  refine wpAnyM_ready (rs := [8]) (by kernel_rfl) (by simp) ?_
  refine AllReadyM.free (o := ?_) ?_ (by kernel_rfl) ?_ ?_
  rotate_left 1
  · simp only [List.getElem?_toArray, List.getElem?_cons_succ, List.getElem?_cons_zero]; exact rfl
  rotate_left 1
  · exact AllReadyM.nil
  intro K hK
  go_simp
  refine hK.out _ _ ?_
  clear hK K
  refine wpAnyM_done (by kernel_rfl) ?_ _
  obtain ⟨w5, hw5⟩ : ∃ w5, w5 = (((w4.setCell ⟨g2, p * 5 + 2, none⟩ (.int .i64 vk)).setCell ⟨g2, p * 5 + 3, none⟩ (.int .i64 va)).setCell ⟨g2, p * 5 + 4, none⟩ (.int .i64 vb)).drew := ⟨_, rfl⟩
  have H5 := Lib.hid (hw5 ▸ h5.drew)
  rw [← hw5]
  clear h5 hw5 y2 y3 y4 z2 z3 z4 cp q0 q1 q2 hHeld
  have hbw := H5.out.blk (L.length + 2) (b := bo) (tail_get _ _ _ 2 (by simp))
  have u0 := hbw.cell 0
  have u1 := hbw.cell 1
  have u2 := hbw.cell 2
  have hb := H5.out.blk (L.length + 1) (b := w.heap.size + 1) (tail_get _ _ _ 1 (by simp))
  have e0 := hb.cell 0
  have e1 := hb.cell 1
  have e2 := hb.cell 2
  have f0 := hb.frozen 0
  have f1 := hb.frozen 1
  have f2 := hb.frozen 2
  simp at e0 e1 e2 u0 u1 u2
  have HB := Lib.hid hb
  clear hb hbw
  go_wp2_with fail
  have hb5 := ((HB.out.setCell 0 (.int .i64 sa)).setCell 1 (.int .i64 sb)).setCell 2 (.int .i64 sc)
  have e0 := hb5.cell 0
  have e1 := hb5.cell 1
  have e2 := hb5.cell 2
  simp at e0 e1 e2
  have HE := Lib.hid (H5.out.res3 (k := 1) (b := w.heap.size + 1) rfl (.int .i64 sa) (.int .i64 sb) (.int .i64 sc))
  refine bodyPost_ret (v := .tuple #[.agg #[.int .i64 sa, .int .i64 sb, .int .i64 sc], .bool true]) (by simp [results, Try.results29, go_sem, e0, e1, e2]) rfl ⟨⟨_, rfl⟩, HE.out⟩
end Go.Proofs.Ytcmbbkaioopkhaa
