/-
  The document's table of rows: get, put, take.
-/
import Derived.Test.YtcmbbkaioopkhaaTab
namespace Go.Proofs.Ytcmbbkaioopkhaa
open Go Go.RowKit
set_option linter.unusedVariables false
set_option linter.unusedSimpArgs false

set_option maxHeartbeats 1000000 in
theorem tab_get_yes {w0 w : World} {L : List Asr} {b : Nat} {l : List RowT} (H : St w0 w L) (i : Nat) (hi : L[i]? = some (tabA b l)) (x : Int) (p : Nat) (hp : p < l.length) (hx : (rt l p).i = x) (hno : ∀ j, j < p → (rt l j).i ≠ x) :
    Calls Try.prog 44 #[.pointer (some ⟨b, 0, none⟩), .int .i64 x] w (fun e w' => e = .returned (.tuple #[agg3 (rt l p).vk (rt l p).va (rt l p).vb, .bool true]) ∧ St w0 w' L) := by
  have HIL := Lib.hid (List.getElem?_eq_some_iff.1 hi).1
  have hA := H.box #[.int .i64 0, .int .i64 0, .int .i64 0] 67
  have hi2 : (L ++ [blkA w.heap.size #[.int .i64 0, .int .i64 0, .int .i64 0] 67])[i]? = some (tabA b l) := by rw [List.getElem?_append_left HIL.out]; exact hi
  have HF := Lib.hid (tab_find_yes hA i hi2 x p hp hx hno)
  obtain ⟨g, c, ho⟩ := tab_open hA i hi2 (by omega)
  obtain ⟨_, y1, y2, y3⟩ := ho.cell p hp
  have cp := ho.ptr
  have hcap := ho.cap
  unfold maxLen at hcap
  obtain ⟨n, hn⟩ : ∃ n, l.length = n := ⟨_, rfl⟩
  rw [hn] at cp hcap hp
  obtain ⟨s, hs⟩ : ∃ s, rt l p = s := ⟨_, rfl⟩
  rw [hs] at y1 y2 y3 ⊢
  obtain ⟨sx, sa, sb, sc⟩ := s
  simp only at y1 y2 y3
  unfold agg3
  simp only
  have HA := Lib.hid hA
  have hb := hA.blk (L.length + 0) (b := w.heap.size) (tail_get _ _ _ 0 rfl)
  have e0 := hb.cell 0
  have e1 := hb.cell 1
  have e2 := hb.cell 2
  have f0 := hb.frozen 0
  have f1 := hb.frozen 1
  have f2 := hb.frozen 2
  simp at e0 e1 e2
  have HB := Lib.hid hb
  have HH := Lib.hid H
  have hpi : (p : Int) < n := by omega
  clear H hi hA hi2 ho hn hs hx hno hb
  go_enter Try.func44, Try.ntmps44
  go_wp2_with fail
  refine (HF.out).mono ?_
  rintro e w2 ⟨rfl, rfl⟩
  clear HF
  go_wp2_with fail
  have hb5 := Blk.new w #[.int .i64 sa, .int .i64 sb, .int .i64 sc] 67
  have e0 := hb5.cell 0
  have e1 := hb5.cell 1
  have e2 := hb5.cell 2
  simp at e0 e1 e2
  have HE := HH.out.alloc (.cells #[.int .i64 sa, .int .i64 sb, .int .i64 sc] 67)
  refine bodyPost_ret (v := .tuple #[.agg #[.int .i64 sa, .int .i64 sb, .int .i64 sc], .bool true]) (by simp [results, Try.results44, go_sem, e0, e1, e2]) rfl ⟨rfl, HE⟩

set_option maxHeartbeats 1000000 in
theorem tab_get_no {w0 w : World} {L : List Asr} {b : Nat} {l : List RowT} (H : St w0 w L) (i : Nat) (hi : L[i]? = some (tabA b l)) (x : Int) (hno : ∀ j, j < l.length → (rt l j).i ≠ x) :
    Calls Try.prog 44 #[.pointer (some ⟨b, 0, none⟩), .int .i64 x] w (fun e w' => e = .returned (.tuple #[zV, .bool false]) ∧ St w0 w' L) := by
  have HIL := Lib.hid (List.getElem?_eq_some_iff.1 hi).1
  have hA := H.box #[.int .i64 0, .int .i64 0, .int .i64 0] 67
  have hi2 : (L ++ [blkA w.heap.size #[.int .i64 0, .int .i64 0, .int .i64 0] 67])[i]? = some (tabA b l) := by rw [List.getElem?_append_left HIL.out]; exact hi
  have HF := Lib.hid (tab_find_no hA i hi2 x hno)
  have HA := Lib.hid hA
  have hb := hA.blk (L.length + 0) (b := w.heap.size) (tail_get _ _ _ 0 rfl)
  have e0 := hb.cell 0
  have e1 := hb.cell 1
  have e2 := hb.cell 2
  have f0 := hb.frozen 0
  have f1 := hb.frozen 1
  have f2 := hb.frozen 2
  simp at e0 e1 e2
  unfold zV
  clear H hi hA hi2 hno hb
  go_enter Try.func44, Try.ntmps44
  go_wp2_with fail
  refine (HF.out).mono ?_
  rintro e w2 ⟨rfl, rfl⟩
  clear HF
  go_wp2_with fail
  have h9 := HA.out.take L.length
  rw [List.take_left' rfl] at h9
  refine bodyPost_ret (v := .tuple #[.agg #[.int .i64 0, .int .i64 0, .int .i64 0], .bool false]) (by simp [results, Try.results44, go_sem, e0, e1, e2]) rfl ⟨rfl, h9⟩

set_option maxHeartbeats 1000000 in
theorem tab_take_no {w0 w : World} {L : List Asr} {b : Nat} {l : List RowT} (H : St w0 w L) (i : Nat) (hi : L[i]? = some (tabA b l)) (x : Int) (hno : ∀ j, j < l.length → (rt l j).i ≠ x) :
    Calls Try.prog 43 #[.pointer (some ⟨b, 0, none⟩), .int .i64 x] w (fun e w' => e = .returned (.tuple #[zV, .bool false]) ∧ St w0 w' L) := by
  have HIL := Lib.hid (List.getElem?_eq_some_iff.1 hi).1
  have hA := H.box #[.int .i64 0, .int .i64 0, .int .i64 0] 67
  have hi2 : (L ++ [blkA w.heap.size #[.int .i64 0, .int .i64 0, .int .i64 0] 67])[i]? = some (tabA b l) := by rw [List.getElem?_append_left HIL.out]; exact hi
  have HF := Lib.hid (tab_find_no hA i hi2 x hno)
  have HA := Lib.hid hA
  have hb := hA.blk (L.length + 0) (b := w.heap.size) (tail_get _ _ _ 0 rfl)
  have e0 := hb.cell 0
  have e1 := hb.cell 1
  have e2 := hb.cell 2
  have f0 := hb.frozen 0
  have f1 := hb.frozen 1
  have f2 := hb.frozen 2
  simp at e0 e1 e2
  unfold zV
  clear H hi hA hi2 hno hb
  go_enter Try.func43, Try.ntmps43
  go_wp2_with fail
  refine (HF.out).mono ?_
  rintro e w2 ⟨rfl, rfl⟩
  clear HF
  go_wp2_with fail
  have h9 := HA.out.take L.length
  rw [List.take_left' rfl] at h9
  refine bodyPost_ret (v := .tuple #[.agg #[.int .i64 0, .int .i64 0, .int .i64 0], .bool false]) (by simp [results, Try.results43, go_sem, e0, e1, e2]) rfl ⟨rfl, h9⟩

def takeR (l : List RowT) (p : Nat) : List RowT := (l.set p (rt l (l.length - 1))).take (l.length - 1)
set_option maxRecDepth 3000 in
set_option maxHeartbeats 2000000 in
theorem tab_take_yes {w0 w : World} {L : List Asr} {b : Nat} {l : List RowT} (H : St w0 w L) (i : Nat) (hi : L[i]? = some (tabA b l)) (x : Int) (p : Nat) (hp : p < l.length) (hx : (rt l p).i = x) (hno : ∀ j, j < p → (rt l j).i ≠ x) :
    Calls Try.prog 43 #[.pointer (some ⟨b, 0, none⟩), .int .i64 x] w (fun e w' => e = .returned (.tuple #[agg3 (rt l p).vk (rt l p).va (rt l p).vb, .bool true]) ∧ St w0 w' (L.set i (tabA b (takeR l p)))) := by
  have HIL := Lib.hid (List.getElem?_eq_some_iff.1 hi).1
  have HTK := Lib.hid (show takeR l p = (l.set p (rt l (l.length - 1))).take (l.length - 1) from rfl)
  have hA := H.box #[.int .i64 0, .int .i64 0, .int .i64 0] 67
  have hi2 : (L ++ [blkA w.heap.size #[.int .i64 0, .int .i64 0, .int .i64 0] 67])[i]? = some (tabA b l) := by rw [List.getElem?_append_left HIL.out]; exact hi
  have HF := Lib.hid (tab_find_yes hA i hi2 x p hp hx hno)
  obtain ⟨g0, c0, ho⟩ := tab_open hA i hi2 (by omega)
  obtain ⟨_, y1, y2, y3⟩ := ho.cell p hp
  have cp := ho.ptr
  have hcap := ho.cap
  unfold maxLen at hcap
  have HP := Lib.hid hp
  have HI := Lib.hid hi
  obtain ⟨n, hn⟩ : ∃ n, l.length = n := ⟨_, rfl⟩
  rw [hn] at cp hcap hp
  obtain ⟨s, hs⟩ : ∃ s, rt l p = s := ⟨_, rfl⟩
  rw [hs] at y1 y2 y3 ⊢
  obtain ⟨sx, sa, sb, sc⟩ := s
  simp only at y1 y2 y3
  unfold agg3
  simp only
  have HN := Lib.hid hn
  have HA := Lib.hid hA
  have hpi : (p : Int) < n := by omega
  clear H hi hA hi2 ho hn hs hx hno
  go_enter Try.func43, Try.ntmps43
  go_wp2_with fail
  refine (HF.out).mono ?_
  rintro e w2 ⟨rfl, rfl⟩
  clear HF
  go_upto_region 5 with (fail)
  have h4 := HA.out.box #[.int .i64 sa, .int .i64 sb, .int .i64 sc] 67
  rw [List.append_assoc, World.size_alloc] at h4
  have H4 := Lib.hid h4
  obtain ⟨w4, hw4⟩ : ∃ w4, w4 = (w.alloc (.cells #[.int .i64 0, .int .i64 0, .int .i64 0] 67)).alloc (.cells #[.int .i64 sa, .int .i64 sb, .int .i64 sc] 67) := ⟨_, rfl⟩
  rw [← hw4] at H4 ⊢
  clear h4 y1 y2 y3 cp hw4 HA
  obtain ⟨g, c, ho⟩ := tab_open H4.out i (by rw [List.getElem?_append_left HIL.out]; exact HI.out) (by have := HP.out; omega)
  obtain ⟨y0, y1, y2, y3⟩ := ho.cell p HP.out
  obtain ⟨x0, x1, x2, x3⟩ := ho.cell (l.length - 1) (by have := HP.out; omega)
  rw [HN.out] at x0 x1 x2 x3
  have cp := ho.ptr
  have cpf := ho.ptrf
  rw [HN.out] at cp
  have hcap2 := ho.cap
  rw [HN.out] at hcap2
  unfold maxLen at hcap2
  have z0 := ho.frz (p * 4)
  have z1 := ho.frz (p * 4 + 1)
  have z2 := ho.frz (p * 4 + 2)
  have z3 := ho.frz (p * 4 + 3)
  obtain ⟨s, hs⟩ : ∃ s, rt l (n - 1) = s := ⟨_, rfl⟩
  rw [hs] at x0 x1 x2 x3
  obtain ⟨tx, ta, tb, tc⟩ := s
  simp only at x0 x1 x2 x3
  have h5 := ho.put p HP.out tx ta tb tc
  have HTK2 := Lib.hid (show takeR l p = (l.set p ⟨tx, ta, tb, tc⟩).take (n - 1) by rw [HTK.out, HN.out, hs])
  obtain ⟨m, hm⟩ : ∃ m, n - 1 = m := ⟨_, rfl⟩
  rw [hm] at x0 x1 x2 x3 HTK2
  have hmi : (n : Int) - 1 = m := by omega
  have hmn : (m : Int) < n := by omega
  clear ho hs
  go_upto_region 6 with (fail)
  refine wp_region_M (r := 12) (S := fun w' => w'.cell? ⟨b, 0, none⟩ = some (.slice (some ⟨g, 0, none⟩) n c) ∧ w'.cell? ⟨g, m * 4, none⟩ = some (.int .i64 tx) ∧ w'.cell? ⟨g, m * 4 + 1, none⟩ = some (.int .i64 ta) ∧ w'.cell? ⟨g, m * 4 + 2, none⟩ = some (.int .i64 tb) ∧ w'.cell? ⟨g, m * 4 + 3, none⟩ = some (.int .i64 tc)) (by kernel_rfl) ?_ (fun hHeld => ?_)
  · (try dsimp only); go_keep
  (refine wpAnyM_takeP (i := 0) (oi := ?_) (v := ?_) ?_ ?_ ?_ ?_ ?_ ?_ ?_ ?_ ?_; rotate_left 2; (· simp only [List.getElem?_toArray, List.getElem?_cons_succ, List.getElem?_cons_zero]; exact rfl); (· kernel_rfl); (· kernel_rfl); (· kernel_rfl); (· kernel_rfl); (· first | exact fun _ _ _ h => h | exact fun _ _ _ h => (HPan.out _ _ _ h).elim); (· (refine Or.inl ⟨by rfl, ?_⟩; (intro w hSw; (try dsimp only at hSw); go_simp) <;> with_reducible rfl)); (· exact fun _ => hHeld); simp only [Act.put, List.setIfInBounds_toArray, List.set_cons_zero, List.set_cons_succ])
  (refine wpAnyM_takeP (i := 1) (oi := ?_) (v := ?_) ?_ ?_ ?_ ?_ ?_ ?_ ?_ ?_ ?_; rotate_left 2; (· simp only [List.getElem?_toArray, List.getElem?_cons_succ, List.getElem?_cons_zero]; exact rfl); (· kernel_rfl); (· kernel_rfl); (· kernel_rfl); (· kernel_rfl); (· first | exact fun _ _ _ h => h | exact fun _ _ _ h => (HPan.out _ _ _ h).elim); (· (refine Or.inl ⟨by rfl, ?_⟩; (intro w hSw; (try dsimp only at hSw); go_simp) <;> with_reducible rfl)); (· exact fun _ => hHeld); simp only [Act.put, List.setIfInBounds_toArray, List.set_cons_zero, List.set_cons_succ])
  (refine wpAnyM_takeP (i := 2) (oi := ?_) (v := ?_) ?_ ?_ ?_ ?_ ?_ ?_ ?_ ?_ ?_; rotate_left 2; (· simp only [List.getElem?_toArray, List.getElem?_cons_succ, List.getElem?_cons_zero]; exact rfl); (· kernel_rfl); (· kernel_rfl); (· kernel_rfl); (· kernel_rfl); (· first | exact fun _ _ _ h => h | exact fun _ _ _ h => (HPan.out _ _ _ h).elim); (· (refine Or.inl ⟨by rfl, ?_⟩; (intro w hSw; (try dsimp only at hSw); go_simp) <;> with_reducible rfl)); (· exact fun _ => hHeld); simp only [Act.put, List.setIfInBounds_toArray, List.set_cons_zero, List.set_cons_succ])
  (refine wpAnyM_take (i := 3) (oi := ?_) (v := ?_) ?_ ?_ ?_ ?_ ?_ ?_ ?_ ?_ ?_ ?_; rotate_left 2; (· simp only [List.getElem?_toArray, List.getElem?_cons_succ, List.getElem?_cons_zero]; exact rfl); (· kernel_rfl); (· kernel_rfl); (· kernel_rfl); (· kernel_rfl); (· kernel_rfl); (· first | exact fun _ _ _ h => h | exact fun _ _ _ h => (HPan.out _ _ _ h).elim); (· (refine Or.inl ⟨by rfl, ?_⟩; (intro w hSw; (try dsimp only at hSw); go_simp) <;> with_reducible rfl)); (· assumption); simp only [Act.put, List.setIfInBounds_toArray, List.set_cons_zero, List.set_cons_succ])
  (refine wpAnyM_takeP (i := 4) (oi := ?_) (v := ?_) ?_ ?_ ?_ ?_ ?_ ?_ ?_ ?_ ?_; rotate_left 2; (· simp only [List.getElem?_toArray, List.getElem?_cons_succ, List.getElem?_cons_zero]; exact rfl); (· kernel_rfl); (· kernel_rfl); (· kernel_rfl); (· kernel_rfl); (· first | exact fun _ _ _ h => h | exact fun _ _ _ h => (HPan.out _ _ _ h).elim); (· (refine Or.inl ⟨by rfl, ?_⟩; (intro w hSw; (try dsimp only at hSw); go_simp) <;> with_reducible rfl)); (· exact fun _ => hHeld); simp only [Act.put, List.setIfInBounds_toArray, List.set_cons_zero, List.set_cons_succ])
  (refine wpAnyM_takeP (i := 5) (oi := ?_) (v := ?_) ?_ ?_ ?_ ?_ ?_ ?_ ?_ ?_ ?_; rotate_left 2; (· simp only [List.getElem?_toArray, List.getElem?_cons_succ, List.getElem?_cons_zero]; exact rfl); (· kernel_rfl); (· kernel_rfl); (· kernel_rfl); (· kernel_rfl); (· first | exact fun _ _ _ h => h | exact fun _ _ _ h => (HPan.out _ _ _ h).elim); (· (refine Or.inl ⟨by rfl, ?_⟩; (intro w hSw; (try dsimp only at hSw); go_simp) <;> with_reducible rfl)); (· exact fun _ => hHeld); simp only [Act.put, List.setIfInBounds_toArray, List.set_cons_zero, List.set_cons_succ])
  (refine wpAnyM_takeP (i := 6) (oi := ?_) (v := ?_) ?_ ?_ ?_ ?_ ?_ ?_ ?_ ?_ ?_; rotate_left 2; (· simp only [List.getElem?_toArray, List.getElem?_cons_succ, List.getElem?_cons_zero]; exact rfl); (· kernel_rfl); (· kernel_rfl); (· kernel_rfl); (· kernel_rfl); (· first | exact fun _ _ _ h => h | exact fun _ _ _ h => (HPan.out _ _ _ h).elim); (· (refine Or.inl ⟨by rfl, ?_⟩; (intro w hSw; (try dsimp only at hSw); go_simp) <;> with_reducible rfl)); (· exact fun _ => hHeld); simp only [Act.put, List.setIfInBounds_toArray, List.set_cons_zero, List.set_cons_succ])
  (refine wpAnyM_takeP (i := 7) (oi := ?_) (v := ?_) ?_ ?_ ?_ ?_ ?_ ?_ ?_ ?_ ?_; rotate_left 2; (· simp only [List.getElem?_toArray, List.getElem?_cons_succ, List.getElem?_cons_zero]; exact rfl); (· kernel_rfl); (· kernel_rfl); (· kernel_rfl); (· kernel_rfl); (· first | exact fun _ _ _ h => h | exact fun _ _ _ h => (HPan.out _ _ _ h).elim); (· (refine Or.inl ⟨by rfl, ?_⟩; (intro w hSw; (try dsimp only at hSw); go_simp) <;> with_reducible rfl)); (· exact fun _ => hHeld); simp only [Act.put, List.setIfInBounds_toArray, List.set_cons_zero, List.set_cons_succ])
  (refine wpAnyM_take (i := 8) (oi := ?_) (v := ?_) ?_ ?_ ?_ ?_ ?_ ?_ ?_ ?_ ?_ ?_; rotate_left 2; (· simp only [List.getElem?_toArray, List.getElem?_cons_succ, List.getElem?_cons_zero]; exact rfl); (· kernel_rfl); (· kernel_rfl); (· kernel_rfl); (· kernel_rfl); (· kernel_rfl); (· first | exact fun _ _ _ h => h | exact fun _ _ _ h => (HPan.out _ _ _ h).elim); (· (refine Or.inl ⟨by rfl, ?_⟩; (intro w hSw; (try dsimp only at hSw); go_simp) <;> with_reducible rfl)); (· assumption); simp only [Act.put, List.setIfInBounds_toArray, List.set_cons_zero, List.set_cons_succ])
  (refine wpAnyM_takeP (i := 9) (oi := ?_) (v := ?_) ?_ ?_ ?_ ?_ ?_ ?_ ?_ ?_ ?_; rotate_left 2; (· simp only [List.getElem?_toArray, List.getElem?_cons_succ, List.getElem?_cons_zero]; exact rfl); (· kernel_rfl); (· kernel_rfl); (· kernel_rfl); (· kernel_rfl); (· first | exact fun _ _ _ h => h | exact fun _ _ _ h => (HPan.out _ _ _ h).elim); (· (refine Or.inl ⟨by rfl, ?_⟩; (intro w hSw; (try dsimp only at hSw); go_simp) <;> with_reducible rfl)); (· exact fun _ => hHeld); simp only [Act.put, List.setIfInBounds_toArray, List.set_cons_zero, List.set_cons_succ])
  (refine wpAnyM_takeP (i := 10) (oi := ?_) (v := ?_) ?_ ?_ ?_ ?_ ?_ ?_ ?_ ?_ ?_; rotate_left 2; (· simp only [List.getElem?_toArray, List.getElem?_cons_succ, List.getElem?_cons_zero]; exact rfl); (· kernel_rfl); (· kernel_rfl); (· kernel_rfl); (· kernel_rfl); (· first | exact fun _ _ _ h => h | exact fun _ _ _ h => (HPan.out _ _ _ h).elim); (· (refine Or.inl ⟨by rfl, ?_⟩; (intro w hSw; (try dsimp only at hSw); go_simp) <;> with_reducible rfl)); (· exact fun _ => hHeld); simp only [Act.put, List.setIfInBounds_toArray, List.set_cons_zero, List.set_cons_succ])
  (refine wpAnyM_take (i := 11) (oi := ?_) (v := ?_) ?_ ?_ ?_ ?_ ?_ ?_ ?_ ?_ ?_ ?_; rotate_left 2; (· simp only [List.getElem?_toArray, List.getElem?_cons_succ, List.getElem?_cons_zero]; exact rfl); (· kernel_rfl); (· kernel_rfl); (· kernel_rfl); (· kernel_rfl); (· kernel_rfl); (· first | exact fun _ _ _ h => h | exact fun _ _ _ h => (HPan.out _ _ _ h).elim); (· (refine Or.inl ⟨by rfl, ?_⟩; (intro w hSw; (try dsimp only at hSw); go_simp) <;> with_reducible rfl)); (· assumption); simp only [Act.put, List.setIfInBounds_toArray, List.set_cons_zero, List.set_cons_succ])
  refine wpAnyM_ready (rs := [12]) (by kernel_rfl) (by simp) ?_
  refine AllReadyM.free (o := ?_) ?_ (by kernel_rfl) ?_ ?_
  rotate_left 1
  · simp only [List.getElem?_toArray, List.getElem?_cons_succ, List.getElem?_cons_zero]; exact rfl
  rotate_left 1
  · exact AllReadyM.nil
  intro K hK
  go_simp
  refine hK.out _ _ ?_
  clear hK K
  refine wpAnyM_ready (rs := [13]) (by kernel_rfl) (by simp) ?_
  refine AllReadyM.free (o := ?_) ?_ (by kernel_rfl) ?_ ?_
  rotate_left 1
  · simp only [List.getElem?_toArray, List.getElem?_cons_succ, List.getElem?_cons_zero]; exact rfl
  rotate_left 1
  · exact AllReadyM.nil
  intro K hK
  go_simp
  refine hK.out _ _ ?_
  clear hK K
  refine wpAnyM_done (by kernel_rfl) ?_ _
  obtain ⟨w5, hw5⟩ : ∃ w5, w5 = ((((w4.setCell ⟨g, p * 4, none⟩ (.int .i64 tx)).setCell ⟨g, p * 4 + 1, none⟩ (.int .i64 ta)).setCell ⟨g, p * 4 + 2, none⟩ (.int .i64 tb)).setCell ⟨g, p * 4 + 3, none⟩ (.int .i64 tc)).drew := ⟨_, rfl⟩
  have H5 := Lib.hid (hw5 ▸ h5.drew)
  rw [← hw5]
  clear h5 hw5 x0 x1 x2 x3 y0 y1 y2 y3 z0 z1 z2 z3 cp cpf hHeld
  obtain ⟨l1, hl1⟩ : ∃ l1, l.set p ⟨tx, ta, tb, tc⟩ = l1 := ⟨_, rfl⟩
  have HL1 := Lib.hid (show l1.length = n by rw [← hl1, List.length_set, HN.out])
  rw [hl1] at H5 HTK2
  obtain ⟨g3, c3, ho⟩ := tab_open H5.out i (by rw [List.set_append_left _ _ HIL.out, List.getElem?_append_left (by simpa using HIL.out), List.getElem?_set_self HIL.out]) (by have := HL1.out; omega)
  have cp := ho.ptr
  have cpf := ho.ptrf
  have hcap3 := ho.cap
  rw [HL1.out] at cp hcap3
  unfold maxLen at hcap3
  have h6 := ho.low m (by rw [HL1.out]; omega)
  rw [List.set_append_left _ _ HIL.out, List.set_append_left _ _ (by simpa using HIL.out), List.set_set, ← HTK2.out] at h6
  have hrunh := slice_h_any (P := Try.prog) slCell (some ⟨g3, 0, none⟩) n c3 m .i64 (by omega)
  clear ho hl1
  go_upto_region 8 with (fail)
  obtain ⟨w6, hw6⟩ : ∃ w6, w6 = w5.setCell ⟨b, 0, none⟩ (.slice (some ⟨g3, 0, none⟩) m c3) := ⟨_, rfl⟩
  rw [← hw6] at h6 ⊢
  have H6 := Lib.hid h6
  clear h6 hw6 hrunh cp cpf
  have hbw := H6.out.blk (L.length + 1) (b := w.heap.size + 1) (tail_get _ _ _ 1 (by simp))
  have u0 := hbw.cell 0
  have u1 := hbw.cell 1
  have u2 := hbw.cell 2
  have hb := H6.out.blk (L.length + 0) (b := w.heap.size) (tail_get _ _ _ 0 (by simp))
  have e0 := hb.cell 0
  have e1 := hb.cell 1
  have e2 := hb.cell 2
  have f0 := hb.frozen 0
  have f1 := hb.frozen 1
  have f2 := hb.frozen 2
  simp at e0 e1 e2 u0 u1 u2
  have HB := Lib.hid hb
  clear hb hbw
  go_wp2_with fail
  have hb5 := ((HB.out.setCell 0 (.int .i64 sa)).setCell 1 (.int .i64 sb)).setCell 2 (.int .i64 sc)
  have e0 := hb5.cell 0
  have e1 := hb5.cell 1
  have e2 := hb5.cell 2
  simp at e0 e1 e2
  have HE := Lib.hid (H6.out.res3 (k := 0) (b := w.heap.size) rfl (.int .i64 sa) (.int .i64 sb) (.int .i64 sc))
  refine bodyPost_ret (v := .tuple #[.agg #[.int .i64 sa, .int .i64 sb, .int .i64 sc], .bool true]) (by simp [results, Try.results43, go_sem, e0, e1, e2]) rfl ⟨rfl, HE.out⟩

set_option maxHeartbeats 1000000 in
theorem tab_put_bad {w0 w : World} {L : List Asr} (H : St w0 w L) (b : Nat) (x : Int) (hx : ¬ (0 ≤ x ∧ x < 65536)) (vk va vb : Int) :
    Calls Try.prog 42 #[.pointer (some ⟨b, 0, none⟩), .int .i64 x, .agg #[.int .i64 vk, .int .i64 va, .int .i64 vb]] w (fun e w' => e = .returned (.tuple #[zV, .bool false]) ∧ St w0 w' L) := by
  have hA := (H.box #[.int .i64 vk, .int .i64 va, .int .i64 vb] 67).box #[.int .i64 0, .int .i64 0, .int .i64 0] 67
  rw [World.size_alloc, List.append_assoc] at hA
  have hb := hA.blk (L.length + 1) (b := w.heap.size + 1) (tail_get _ _ _ 1 rfl)
  have hI := ref_index x ((w.alloc (.cells #[.int .i64 vk, .int .i64 va, .int .i64 vb] 67)).alloc (.cells #[.int .i64 0, .int .i64 0, .int .i64 0] 67))
  rw [decide_eq_false hx] at hI
  have HI := Lib.hid hI
  have HA := Lib.hid hA
  have e0 := hb.cell 0
  have e1 := hb.cell 1
  have e2 := hb.cell 2
  have y0 := hb.frozen 0
  have y1 := hb.frozen 1
  have y2 := hb.frozen 2
  simp at e0 e1 e2
  have HB := Lib.hid hb
  unfold zV
  clear H hA hb hI
  go_enter Try.func42, Try.ntmps42
  go_wp2_with fail
  refine (HI.out).mono ?_
  rintro e w2 ⟨rfl, rfl⟩
  clear HI
  go_wp2_with fail
  have h9 := HA.out.take L.length
  rw [List.take_left' rfl] at h9
  refine bodyPost_ret (v := .tuple #[.agg #[.int .i64 0, .int .i64 0, .int .i64 0], .bool false]) (by simp [results, Try.results42, go_sem, e0, e1, e2]) rfl ⟨rfl, h9⟩

set_option maxRecDepth 3000 in
set_option maxHeartbeats 2000000 in
theorem tab_put_old {w0 w : World} {L : List Asr} {b : Nat} {l : List RowT} (H : St w0 w L) (i : Nat) (hi : L[i]? = some (tabA b l)) (x : Int) (h0 : 0 ≤ x) (h1 : x < 65536) (vk va vb : Int) (p : Nat) (hp : p < l.length) (hx : (rt l p).i = x) (hno : ∀ j, j < p → (rt l j).i ≠ x) :
    Calls Try.prog 42 #[.pointer (some ⟨b, 0, none⟩), .int .i64 x, .agg #[.int .i64 vk, .int .i64 va, .int .i64 vb]] w (fun e w' => e = .returned (.tuple #[agg3 (rt l p).vk (rt l p).va (rt l p).vb, .bool true]) ∧ St w0 w' (L.set i (tabA b (l.set p ⟨x, vk, va, vb⟩)))) := by
  have HIL := Lib.hid (List.getElem?_eq_some_iff.1 hi).1
  have hA := (H.box #[.int .i64 vk, .int .i64 va, .int .i64 vb] 67).box #[.int .i64 0, .int .i64 0, .int .i64 0] 67
  rw [World.size_alloc, List.append_assoc] at hA
  have hi2 : (L ++ ([blkA w.heap.size #[.int .i64 vk, .int .i64 va, .int .i64 vb] 67] ++ [blkA (w.heap.size + 1) #[.int .i64 0, .int .i64 0, .int .i64 0] 67]))[i]? = some (tabA b l) := by rw [List.getElem?_append_left HIL.out]; exact hi
  have hI := ref_index x ((w.alloc (.cells #[.int .i64 vk, .int .i64 va, .int .i64 vb] 67)).alloc (.cells #[.int .i64 0, .int .i64 0, .int .i64 0] 67))
  rw [decide_eq_true ⟨h0, h1⟩] at hI
  have HI := Lib.hid hI
  have HF := Lib.hid (tab_find_yes hA i hi2 x p hp hx hno)
  obtain ⟨g0, c0, ho⟩ := tab_open hA i hi2 (by omega)
  obtain ⟨_, y1, y2, y3⟩ := ho.cell p hp
  have cp := ho.ptr
  have hcap := ho.cap
  unfold maxLen at hcap
  have HP := Lib.hid hp
  have HII := Lib.hid hi
  have HX := Lib.hid hx
  obtain ⟨n, hn⟩ : ∃ n, l.length = n := ⟨_, rfl⟩
  rw [hn] at cp hcap hp
  obtain ⟨s, hs⟩ : ∃ s, rt l p = s := ⟨_, rfl⟩
  rw [hs] at y1 y2 y3 ⊢
  obtain ⟨sx, sa, sb, sc⟩ := s
  simp only at y1 y2 y3
  unfold agg3
  simp only
  have HN := Lib.hid hn
  have HA := Lib.hid hA
  have hpi : (p : Int) < n := by omega
  clear H hi hA hi2 ho hn hs hx hno hI
  go_enter Try.func42, Try.ntmps42
  go_wp2_with fail
  refine (HI.out).mono ?_
  rintro e w2 ⟨rfl, rfl⟩
  clear HI
  go_wp2_with fail
  refine (HF.out).mono ?_
  rintro e w2 ⟨rfl, rfl⟩
  clear HF
  go_upto_region 6 with (fail)
  have h4 := HA.out.box #[.int .i64 sa, .int .i64 sb, .int .i64 sc] 67
  rw [List.append_assoc, World.size_alloc, World.size_alloc] at h4
  have H4 := Lib.hid h4
  obtain ⟨w4, hw4⟩ : ∃ w4, w4 = ((w.alloc (.cells #[.int .i64 vk, .int .i64 va, .int .i64 vb] 67)).alloc (.cells #[.int .i64 0, .int .i64 0, .int .i64 0] 67)).alloc (.cells #[.int .i64 sa, .int .i64 sb, .int .i64 sc] 67) := ⟨_, rfl⟩
  rw [← hw4] at H4 ⊢
  clear h4 y1 y2 y3 cp hw4 HA
  obtain ⟨g, c, ho⟩ := tab_open H4.out i (by rw [List.getElem?_append_left HIL.out]; exact HII.out) (by have := HP.out; omega)
  obtain ⟨_, y1, y2, y3⟩ := ho.cell p HP.out
  have cp := ho.ptr
  rw [HN.out] at cp
  have hcap2 := ho.cap
  rw [HN.out] at hcap2
  unfold maxLen at hcap2
  have z1 := ho.frz (p * 4 + 1)
  have z2 := ho.frz (p * 4 + 2)
  have z3 := ho.frz (p * 4 + 3)
  have h5 := ho.val p HP.out vk va vb
  rw [List.set_append_left _ _ HIL.out, HX.out] at h5
  have q0 := (H4.out.blk (L.length + 0) (b := w.heap.size) (tail_get _ _ _ 0 rfl)).cell 0
  have q1 := (H4.out.blk (L.length + 0) (b := w.heap.size) (tail_get _ _ _ 0 rfl)).cell 1
  have q2 := (H4.out.blk (L.length + 0) (b := w.heap.size) (tail_get _ _ _ 0 rfl)).cell 2
  simp at q0 q1 q2
  clear ho
  refine wp_region_M (r := 6) (S := fun w' => w'.cell? ⟨b, 0, none⟩ = some (.slice (some ⟨g, 0, none⟩) n c) ∧ w'.cell? ⟨w.heap.size, 0, none⟩ = some (.int .i64 vk) ∧ w'.cell? ⟨w.heap.size, 1, none⟩ = some (.int .i64 va) ∧ w'.cell? ⟨w.heap.size, 2, none⟩ = some (.int .i64 vb)) (by kernel_rfl) ?_ (fun hHeld => ?_)
  · (try dsimp only); go_keep
  (refine wpAnyM_takeP (i := 0) (oi := ?_) (v := ?_) ?_ ?_ ?_ ?_ ?_ ?_ ?_ ?_ ?_; rotate_left 2; (· simp only [List.getElem?_toArray, List.getElem?_cons_succ, List.getElem?_cons_zero]; exact rfl); (· kernel_rfl); (· kernel_rfl); (· kernel_rfl); (· kernel_rfl); (· first | exact fun _ _ _ h => h | exact fun _ _ _ h => (HPan.out _ _ _ h).elim); (· (refine Or.inl ⟨by rfl, ?_⟩; (intro w hSw; (try dsimp only at hSw); go_simp) <;> with_reducible rfl)); (· exact fun _ => hHeld); simp only [Act.put, List.setIfInBounds_toArray, List.set_cons_zero, List.set_cons_succ])
  (refine wpAnyM_takeP (i := 1) (oi := ?_) (v := ?_) ?_ ?_ ?_ ?_ ?_ ?_ ?_ ?_ ?_; rotate_left 2; (· simp only [List.getElem?_toArray, List.getElem?_cons_succ, List.getElem?_cons_zero]; exact rfl); (· kernel_rfl); (· kernel_rfl); (· kernel_rfl); (· kernel_rfl); (· first | exact fun _ _ _ h => h | exact fun _ _ _ h => (HPan.out _ _ _ h).elim); (· (refine Or.inl ⟨by rfl, ?_⟩; (intro w hSw; (try dsimp only at hSw); go_simp) <;> with_reducible rfl)); (· exact fun _ => hHeld); simp only [Act.put, List.setIfInBounds_toArray, List.set_cons_zero, List.set_cons_succ])
  (refine wpAnyM_takeP (i := 2) (oi := ?_) (v := ?_) ?_ ?_ ?_ ?_ ?_ ?_ ?_ ?_ ?_; rotate_left 2; (· simp only [List.getElem?_toArray, List.getElem?_cons_succ, List.getElem?_cons_zero]; exact rfl); (· kernel_rfl); (· kernel_rfl); (· kernel_rfl); (· kernel_rfl); (· first | exact fun _ _ _ h => h | exact fun _ _ _ h => (HPan.out _ _ _ h).elim); (· (refine Or.inl ⟨by rfl, ?_⟩; (intro w hSw; (try dsimp only at hSw); go_simp) <;> with_reducible rfl)); (· exact fun _ => hHeld); simp only [Act.put, List.setIfInBounds_toArray, List.set_cons_zero, List.set_cons_succ])
  (refine wpAnyM_take (i := 3) (oi := ?_) (v := ?_) ?_ ?_ ?_ ?_ ?_ ?_ ?_ ?_ ?_ ?_; rotate_left 2; (· simp only [List.getElem?_toArray, List.getElem?_cons_succ, List.getElem?_cons_zero]; exact rfl); (· kernel_rfl); (· kernel_rfl); (· kernel_rfl); (· kernel_rfl); (· kernel_rfl); (· first | exact fun _ _ _ h => h | exact fun _ _ _ h => (HPan.out _ _ _ h).elim); (· (refine Or.inl ⟨by rfl, ?_⟩; (intro w hSw; (try dsimp only at hSw); go_simp) <;> with_reducible rfl)); (· assumption); simp only [Act.put, List.setIfInBounds_toArray, List.set_cons_zero, List.set_cons_succ])
  (refine wpAnyM_takeP (i := 4) (oi := ?_) (v := ?_) ?_ ?_ ?_ ?_ ?_ ?_ ?_ ?_ ?_; rotate_left 2; (· simp only [List.getElem?_toArray, List.getElem?_cons_succ, List.getElem?_cons_zero]; exact rfl); (· kernel_rfl); (· kernel_rfl); (· kernel_rfl); (· kernel_rfl); (· first | exact fun _ _ _ h => h | exact fun _ _ _ h => (HPan.out _ _ _ h).elim); (· (refine Or.inl ⟨by rfl, ?_⟩; (intro w hSw; (try dsimp only at hSw); go_simp) <;> with_reducible rfl)); (· exact fun _ => hHeld); simp only [Act.put, List.setIfInBounds_toArray, List.set_cons_zero, List.set_cons_succ])
  (refine wpAnyM_take (i := 5) (oi := ?_) (v := ?_) ?_ ?_ ?_ ?_ ?_ ?_ ?_ ?_ ?_ ?_; rotate_left 2; (· simp only [List.getElem?_toArray, List.getElem?_cons_succ, List.getElem?_cons_zero]; exact rfl); (· kernel_rfl); (· kernel_rfl); (· kernel_rfl); (· kernel_rfl); (· kernel_rfl); (· first | exact fun _ _ _ h => h | exact fun _ _ _ h => (HPan.out _ _ _ h).elim); (· (refine Or.inl ⟨by rfl, ?_⟩; (intro w hSw; (try dsimp only at hSw); go_simp) <;> with_reducible rfl)); (· assumption); simp only [Act.put, List.setIfInBounds_toArray, List.set_cons_zero, List.set_cons_succ])
  refine wpAnyM_ready (rs := [6]) (by kernel_rfl) (by simp) ?_
  refine AllReadyM.free (o := ?_) ?_ (by kernel_rfl) ?_ ?_
  rotate_left 1
  · simp only [List.getElem?_toArray, List.getElem?_cons_succ, List.getElem?_cons_zero]; exact rfl
  rotate_left 1
  · exact AllReadyM.nil
  intro K hK
  go_simp
  refine hK.out _ _ ?_
  clear hK K
  (refine wpAnyM_takeP (i := 7) (oi := ?_) (v := ?_) ?_ ?_ ?_ ?_ ?_ ?_ ?_ ?_ ?_; rotate_left 2; (· simp only [List.getElem?_toArray, List.getElem?_cons_succ, List.getElem?_cons_zero]; exact rfl); (· kernel_rfl); (· kernel_rfl); (· kernel_rfl); (· kernel_rfl); (· first | exact fun _ _ _ h => h | exact fun _ _ _ h => (HPan.out _ _ _ h).elim); (· (refine Or.inl ⟨by rfl, ?_⟩; (intro w hSw; (try dsimp only at hSw); go_simp) <;> with_reducible rfl)); (· exact fun h => Bool.noConfusion (show true = false from h)); simp only [Act.put, List.setIfInBounds_toArray, List.set_cons_zero, List.set_cons_succ])
  refine wpAnyM_ready (rs := [8]) (by kernel_rfl) (by simp) ?_
  refine AllReadyM.free (o := ?_) ?_ (by kernel_rfl) ?_ ?_
  rotate_left 1
  · simp only [List.getElem?_toArray, List.getElem?_cons_succ, List.getElem?_cons_zero]; exact rfl
  rotate_left 1
  · exact AllReadyM.nil
  intro K hK
  go_simp
  refine hK.out _ _ ?_
  clear hK K
  refine wpAnyM_done (by kernel_rfl) ?_ _
  obtain ⟨w5, hw5⟩ : ∃ w5, w5 = (((w4.setCell ⟨g, p * 4 + 1, none⟩ (.int .i64 vk)).setCell ⟨g, p * 4 + 2, none⟩ (.int .i64 va)).setCell ⟨g, p * 4 + 3, none⟩ (.int .i64 vb)).drew := ⟨_, rfl⟩
  have H5 := Lib.hid (hw5 ▸ h5.drew)
  rw [← hw5]
  clear h5 hw5 y1 y2 y3 z1 z2 z3 cp q0 q1 q2 hHeld
  have hbw := H5.out.blk (L.length + 2) (b := w.heap.size + 1 + 1) (tail_get _ _ _ 2 (by simp))
  have u0 := hbw.cell 0
  have u1 := hbw.cell 1
  have u2 := hbw.cell 2
  have hb := H5.out.blk (L.length + 1) (b := w.heap.size + 1) (tail_get _ _ _ 1 (by simp))
  have e0 := hb.cell 0
  have e1 := hb.cell 1
  have e2 := hb.cell 2
  have f0 := hb.frozen 0
  have f1 := hb.frozen 1
  have f2 := hb.frozen 2
  simp at e0 e1 e2 u0 u1 u2
  have HB := Lib.hid hb
  clear hb hbw
  go_wp2_with fail
  have hb5 := ((HB.out.setCell 0 (.int .i64 sa)).setCell 1 (.int .i64 sb)).setCell 2 (.int .i64 sc)
  have e0 := hb5.cell 0
  have e1 := hb5.cell 1
  have e2 := hb5.cell 2
  simp at e0 e1 e2
  have HE := Lib.hid (H5.out.res3 (k := 1) (b := w.heap.size + 1) rfl (.int .i64 sa) (.int .i64 sb) (.int .i64 sc))
  refine bodyPost_ret (v := .tuple #[.agg #[.int .i64 sa, .int .i64 sb, .int .i64 sc], .bool true]) (by simp [results, Try.results42, go_sem, e0, e1, e2]) rfl ⟨rfl, HE.out⟩

theorem rd_oneRow (w : World) (x vk va vb : Int) : Rd (fun z => z = w.heap.size) (w.alloc (.cells #[.int .i64 x, .int .i64 vk, .int .i64 va, .int .i64 vb] 103)) (.slice (some ⟨w.heap.size, 0, none⟩) 1 1) 1 (flatR [⟨x, vk, va, vb⟩]) :=
  (Own.lit (S := fun z => z = w.heap.size) w 103 4 1 #[.int .i64 x, .int .i64 vk, .int .i64 va, .int .i64 vb] (by decide) rfl rfl).rd

set_option maxRecDepth 3000 in
set_option maxHeartbeats 2000000 in
theorem tab_put_new {w0 w : World} {L : List Asr} {b : Nat} {l : List RowT} (H : St w0 w L) (i : Nat) (hi : L[i]? = some (tabA b l)) (hlen : l.length ≤ 100000) (x : Int) (h0 : 0 ≤ x) (h1 : x < 65536) (vk va vb : Int) (hno : ∀ j, j < l.length → (rt l j).i ≠ x) :
    Calls Try.prog 42 #[.pointer (some ⟨b, 0, none⟩), .int .i64 x, .agg #[.int .i64 vk, .int .i64 va, .int .i64 vb]] w (fun e w' => e = .returned (.tuple #[zV, .bool false]) ∧ St w0 w' (L.set i (tabA b (l ++ [⟨x, vk, va, vb⟩])))) := by
  have HIL := Lib.hid (List.getElem?_eq_some_iff.1 hi).1
  have hA := (H.box #[.int .i64 vk, .int .i64 va, .int .i64 vb] 67).box #[.int .i64 0, .int .i64 0, .int .i64 0] 67
  rw [World.size_alloc, List.append_assoc] at hA
  have hi2 : (L ++ ([blkA w.heap.size #[.int .i64 vk, .int .i64 va, .int .i64 vb] 67] ++ [blkA (w.heap.size + 1) #[.int .i64 0, .int .i64 0, .int .i64 0] 67]))[i]? = some (tabA b l) := by rw [List.getElem?_append_left HIL.out]; exact hi
  have hI := ref_index x ((w.alloc (.cells #[.int .i64 vk, .int .i64 va, .int .i64 vb] 67)).alloc (.cells #[.int .i64 0, .int .i64 0, .int .i64 0] 67))
  rw [decide_eq_true ⟨h0, h1⟩] at hI
  have HI := Lib.hid hI
  have HF := Lib.hid (tab_find_no hA i hi2 x hno)
  have HA := Lib.hid hA
  obtain ⟨n, hn⟩ : ∃ n, l.length = n := ⟨_, rfl⟩
  rw [hn] at hlen
  have HN := Lib.hid hn
  obtain ⟨w4, hw4⟩ : ∃ w4, w4 = (w.alloc (.cells #[.int .i64 vk, .int .i64 va, .int .i64 vb] 67)).alloc (.cells #[.int .i64 0, .int .i64 0, .int .i64 0] 67) := ⟨_, rfl⟩
  have HW4 := Lib.hid hw4
  have HI2 := Lib.hid hi2
  unfold zV
  clear H hi hA hi2 hn hno hI
  go_enter Try.func42, Try.ntmps42
  go_wp2_with fail
  refine (HI.out).mono ?_
  rintro e w2 ⟨rfl, rfl⟩
  clear HI
  go_wp2_with fail
  refine (HF.out).mono ?_
  rintro e w2 ⟨rfl, rfl⟩
  clear HF
  go_upto_region 8 with (fail)
  rw [← HW4.out] at HA ⊢
  clear hw4 HW4
  obtain ⟨⟨a, c⟩, h⟩ := HA.out.exSplit i HI2.out
  rw [List.set_append_left _ _ HIL.out, ← List.append_assoc] at h
  unfold tabPs at h
  simp only at h
  rw [HN.out] at h
  have h' := (show St w0 w4 ((blkA b #[.slice a n c] 62 :: slA 103 4 (.slice a n c) n (flatR l) :: L.set i empA) ++ [blkA w.heap.size #[.int .i64 vk, .int .i64 va, .int .i64 vb] 67, blkA (w.heap.size + 1) #[.int .i64 0, .int .i64 0, .int .i64 0] 67]) from h)
  have c2 := (h'.blk 0 (b := b) rfl).cell 0
  have q0 := (h'.blk (2 + L.length + 0) (b := w.heap.size) (tail_get _ _ _ 0 (by simp; omega))).cell 0
  have q1 := (h'.blk (2 + L.length + 0) (b := w.heap.size) (tail_get _ _ _ 0 (by simp; omega))).cell 1
  have q2 := (h'.blk (2 + L.length + 0) (b := w.heap.size) (tail_get _ _ _ 0 (by simp; omega))).cell 2
  simp at c2 q0 q1 q2
  obtain ⟨G, hown, _, hup, _⟩ := h'.opens 1 rfl
  have HOwn : Hid (Own G w4 103 4 (.slice a n c) n (flatR l)) := Lib.hid hown
  have HUP := Lib.hid hup
  clear h h' hown hup HA HI2
  refine wp_region_M (r := 10) (S := fun w' => w'.cell? ⟨b, 0, none⟩ = some (.slice a n c) ∧ w'.cell? ⟨w.heap.size, 0, none⟩ = some (.int .i64 vk) ∧ w'.cell? ⟨w.heap.size, 1, none⟩ = some (.int .i64 va) ∧ w'.cell? ⟨w.heap.size, 2, none⟩ = some (.int .i64 vb)) (by kernel_rfl) ?_ (fun hHeld => ?_)
  · (try dsimp only); go_keep
  (refine wpAnyM_takeP (i := 0) (oi := ?_) (v := ?_) ?_ ?_ ?_ ?_ ?_ ?_ ?_ ?_ ?_; rotate_left 2; (· simp only [List.getElem?_toArray, List.getElem?_cons_succ, List.getElem?_cons_zero]; exact rfl); (· kernel_rfl); (· kernel_rfl); (· kernel_rfl); (· kernel_rfl); (· first | exact fun _ _ _ h => h | exact fun _ _ _ h => (HPan.out _ _ _ h).elim); (· (refine Or.inl ⟨by rfl, ?_⟩; (intro w hSw; (try dsimp only at hSw); go_simp) <;> with_reducible rfl)); (· exact fun _ => hHeld); simp only [Act.put, List.setIfInBounds_toArray, List.set_cons_zero, List.set_cons_succ])
  (refine wpAnyM_takeP (i := 1) (oi := ?_) (v := ?_) ?_ ?_ ?_ ?_ ?_ ?_ ?_ ?_ ?_; rotate_left 2; (· simp only [List.getElem?_toArray, List.getElem?_cons_succ, List.getElem?_cons_zero]; exact rfl); (· kernel_rfl); (· kernel_rfl); (· kernel_rfl); (· kernel_rfl); (· first | exact fun _ _ _ h => h | exact fun _ _ _ h => (HPan.out _ _ _ h).elim); (· (refine Or.inl ⟨by rfl, ?_⟩; (intro w hSw; (try dsimp only at hSw); go_simp) <;> with_reducible rfl)); (· exact fun _ => hHeld); simp only [Act.put, List.setIfInBounds_toArray, List.set_cons_zero, List.set_cons_succ])
  (refine wpAnyM_takeP (i := 2) (oi := ?_) (v := ?_) ?_ ?_ ?_ ?_ ?_ ?_ ?_ ?_ ?_; rotate_left 2; (· simp only [List.getElem?_toArray, List.getElem?_cons_succ, List.getElem?_cons_zero]; exact rfl); (· kernel_rfl); (· kernel_rfl); (· kernel_rfl); (· kernel_rfl); (· first | exact fun _ _ _ h => h | exact fun _ _ _ h => (HPan.out _ _ _ h).elim); (· (refine Or.inl ⟨by rfl, ?_⟩; (intro w hSw; (try dsimp only at hSw); go_simp) <;> with_reducible rfl)); (· exact fun _ => hHeld); simp only [Act.put, List.setIfInBounds_toArray, List.set_cons_zero, List.set_cons_succ])
  (refine wpAnyM_takeP (i := 3) (oi := ?_) (v := ?_) ?_ ?_ ?_ ?_ ?_ ?_ ?_ ?_ ?_; rotate_left 2; (· simp only [List.getElem?_toArray, List.getElem?_cons_succ, List.getElem?_cons_zero]; exact rfl); (· kernel_rfl); (· kernel_rfl); (· kernel_rfl); (· kernel_rfl); (· first | exact fun _ _ _ h => h | exact fun _ _ _ h => (HPan.out _ _ _ h).elim); (· (refine Or.inl ⟨by rfl, ?_⟩; (intro w hSw; (try dsimp only at hSw); go_simp) <;> with_reducible rfl)); (· exact fun _ => hHeld); simp only [Act.put, List.setIfInBounds_toArray, List.set_cons_zero, List.set_cons_succ])
  (refine wpAnyM_take (i := 4) (oi := ?_) (v := ?_) ?_ ?_ ?_ ?_ ?_ ?_ ?_ ?_ ?_ ?_; rotate_left 2; (· simp only [List.getElem?_toArray, List.getElem?_cons_succ, List.getElem?_cons_zero]; exact rfl); (· kernel_rfl); (· kernel_rfl); (· kernel_rfl); (· kernel_rfl); (· kernel_rfl); (· first | exact fun _ _ _ h => h | exact fun _ _ _ h => (HPan.out _ _ _ h).elim); (· (refine Or.inl ⟨by rfl, ?_⟩; (intro w hSw; (try dsimp only at hSw); go_simp) <;> with_reducible rfl)); (· assumption); simp only [Act.put, List.setIfInBounds_toArray, List.set_cons_zero, List.set_cons_succ])
  (refine wpAnyM_takeP (i := 5) (oi := ?_) (v := ?_) ?_ ?_ ?_ ?_ ?_ ?_ ?_ ?_ ?_; rotate_left 2; (· simp only [List.getElem?_toArray, List.getElem?_cons_succ, List.getElem?_cons_zero]; exact rfl); (· kernel_rfl); (· kernel_rfl); (· kernel_rfl); (· kernel_rfl); (· first | exact fun _ _ _ h => h | exact fun _ _ _ h => (HPan.out _ _ _ h).elim); (· (refine Or.inl ⟨by rfl, ?_⟩; (intro w hSw; (try dsimp only at hSw); go_simp) <;> with_reducible rfl)); (· exact fun _ => hHeld); simp only [Act.put, List.setIfInBounds_toArray, List.set_cons_zero, List.set_cons_succ])
  (refine wpAnyM_take (i := 6) (oi := ?_) (v := ?_) ?_ ?_ ?_ ?_ ?_ ?_ ?_ ?_ ?_ ?_; rotate_left 2; (· simp only [List.getElem?_toArray, List.getElem?_cons_succ, List.getElem?_cons_zero]; exact rfl); (· kernel_rfl); (· kernel_rfl); (· kernel_rfl); (· kernel_rfl); (· kernel_rfl); (· first | exact fun _ _ _ h => h | exact fun _ _ _ h => (HPan.out _ _ _ h).elim); (· (refine Or.inl ⟨by rfl, ?_⟩; (intro w hSw; (try dsimp only at hSw); go_simp) <;> with_reducible rfl)); (· assumption); simp only [Act.put, List.setIfInBounds_toArray, List.set_cons_zero, List.set_cons_succ])
  (refine wpAnyM_takeP (i := 7) (oi := ?_) (v := ?_) ?_ ?_ ?_ ?_ ?_ ?_ ?_ ?_ ?_; rotate_left 2; (· simp only [List.getElem?_toArray, List.getElem?_cons_succ, List.getElem?_cons_zero]; exact rfl); (· kernel_rfl); (· kernel_rfl); (· kernel_rfl); (· kernel_rfl); (· first | exact fun _ _ _ h => h | exact fun _ _ _ h => (HPan.out _ _ _ h).elim); (· (refine Or.inl ⟨by rfl, ?_⟩; (intro w hSw; (try dsimp only at hSw); go_simp) <;> with_reducible rfl)); (· exact fun _ => hHeld); simp only [Act.put, List.setIfInBounds_toArray, List.set_cons_zero, List.set_cons_succ])
  refine wpAnyM_ready (rs := [8]) (by kernel_rfl) (by simp) ?_
  refine AllReadyM.cons (o := ?_) ?_ ?_ ?_
  rotate_left 1
  · simp only [List.getElem?_toArray, List.getElem?_cons_succ, List.getElem?_cons_zero]; exact rfl
  rotate_left 1
  · exact AllReadyM.nil
  intro K hK
  go_simp
  refine hK.out _ _ ?_ (fun hHeld => ?_)
  · (try dsimp only); go_keep
  clear hK K
  refine wpAnyM_ready (rs := [9]) (by kernel_rfl) (by simp) ?_
  refine AllReadyM.cons (o := ?_) ?_ ?_ ?_
  rotate_left 1
  · simp only [List.getElem?_toArray, List.getElem?_cons_succ, List.getElem?_cons_zero]; exact rfl
  rotate_left 1
  · exact AllReadyM.nil
  intro K hK
  rw [if_pos (by rfl)]
  (refine step_app (P := Try.prog) slCell _ _ rfl (S := G) (S2 := fun z => z = w4.heap.size) (n := n) (xs := flatR l) (m := 1) (news := flatR [⟨x, vk, va, vb⟩]) rfl rfl ?_ ?_ rfl (flatR_one _) (by omega) (by unfold maxLen; omega) ?_; (· exact (HOwn.out.keep (T := Nope) (((Keep.refl w4 Nope).drew).alloc _) (fun _ _ f => f))); (· exact rd_oneRow w4 x vk va vb); rintro a' k' c' w5 happ; obtain ⟨q1, q2⟩ := app_up (wr := w4) (((Keep.refl w4 Nope).drew).alloc _) happ; obtain rfl := happ.num; have HS5 := Lib.hid (show St w0 w5 ((blkA b #[.slice a n c] 62 :: slA 103 4 (.slice a' (n + 1) c') (n + 1) (flatR l ++ flatR [⟨x, vk, va, vb⟩]) :: L.set i empA) ++ [blkA w.heap.size #[.int .i64 vk, .int .i64 va, .int .i64 vb] 67, blkA (w.heap.size + 1) #[.int .i64 0, .int .i64 0, .int .i64 0] 67]) from HUP.out w5 _ q1 q2); clear happ q1 q2; have hf52 := (HS5.out.blk 0 (b := b) rfl).frozen 0; have hc52 := (HS5.out.blk 0 (b := b) rfl).cell 0; have hqb := HS5.out.blk (2 + L.length + 0) (b := w.heap.size) (tail_get _ _ _ 0 (by simp; omega)); have hq0 := hqb.cell 0; have hq1 := hqb.cell 1; have hq2 := hqb.cell 2; simp at hc52 hq0 hq1 hq2; clear hqb)
  refine hK.out _ _ ?_ (fun hHeld => ?_)
  · (try dsimp only); exact ⟨hc52, hq0, hq1, hq2⟩
  clear hK K
  (try simp only [List.getElem_toArray, List.getElem_cons_succ, List.getElem_cons_zero, Act.put, List.setIfInBounds_toArray, List.set_cons_zero, List.set_cons_succ])
  refine wpAnyM_ready (rs := [10]) (by kernel_rfl) (by simp) ?_
  refine AllReadyM.free (o := ?_) ?_ (by kernel_rfl) ?_ ?_
  rotate_left 1
  · simp only [List.getElem?_toArray, List.getElem?_cons_succ, List.getElem?_cons_zero]; exact rfl
  rotate_left 1
  · exact AllReadyM.nil
  intro K hK
  go_simp
  refine hK.out _ _ ?_
  clear hK K
  (refine wpAnyM_takeP (i := 11) (oi := ?_) (v := ?_) ?_ ?_ ?_ ?_ ?_ ?_ ?_ ?_ ?_; rotate_left 2; (· simp only [List.getElem?_toArray, List.getElem?_cons_succ, List.getElem?_cons_zero]; exact rfl); (· kernel_rfl); (· kernel_rfl); (· kernel_rfl); (· kernel_rfl); (· first | exact fun _ _ _ h => h | exact fun _ _ _ h => (HPan.out _ _ _ h).elim); (· (refine Or.inl ⟨by rfl, ?_⟩; (intro w hSw; (try dsimp only at hSw); go_simp) <;> with_reducible rfl)); (· exact fun h => Bool.noConfusion (show true = false from h)); simp only [Act.put, List.setIfInBounds_toArray, List.set_cons_zero, List.set_cons_succ])
  refine wpAnyM_ready (rs := [12]) (by kernel_rfl) (by simp) ?_
  refine AllReadyM.free (o := ?_) ?_ (by kernel_rfl) ?_ ?_
  rotate_left 1
  · simp only [List.getElem?_toArray, List.getElem?_cons_succ, List.getElem?_cons_zero]; exact rfl
  rotate_left 1
  · exact AllReadyM.nil
  intro K hK
  go_simp
  refine hK.out _ _ ?_
  clear hK K
  refine wpAnyM_done (by kernel_rfl) ?_ _
  have h6 := HS5.out.write 0 (b := b) rfl 0 (.slice a' (n + 1) c')
  obtain ⟨w6, hw6⟩ : ∃ w6, w6 = w5.setCell ⟨b, 0, none⟩ (.slice a' (n + 1) c') := ⟨_, rfl⟩
  rw [← hw6] at h6 ⊢
  have H6 := Lib.hid (show St w0 w6 ((blkA b #[.slice a' (n + 1) c'] 62 :: slA 103 4 (.slice a' (n + 1) c') (n + 1) (flatR l ++ flatR [⟨x, vk, va, vb⟩]) :: L.set i empA) ++ [blkA w.heap.size #[.int .i64 vk, .int .i64 va, .int .i64 vb] 67, blkA (w.heap.size + 1) #[.int .i64 0, .int .i64 0, .int .i64 0] 67]) from h6)
  clear h6 hw6 HS5 HUP HOwn hf52 hc52 c2 q0 q1 q2 hHeld hq0 hq1 hq2
  have hb := H6.out.blk (2 + L.length + 1) (b := w.heap.size + 1) (tail_get _ _ _ 1 (by simp; omega))
  have e0 := hb.cell 0
  have e1 := hb.cell 1
  have e2 := hb.cell 2
  have f0 := hb.frozen 0
  have f1 := hb.frozen 1
  have f2 := hb.frozen 2
  simp at e0 e1 e2
  have HB := Lib.hid hb
  clear hb
  go_wp2_with fail
  have hb5 := ((HB.out.setCell 0 (.int .i64 0)).setCell 1 (.int .i64 0)).setCell 2 (.int .i64 0)
  have e0 := hb5.cell 0
  have e1 := hb5.cell 1
  have e2 := hb5.cell 2
  simp at e0 e1 e2
  have h7 := H6.out.res3 (k := 1) (b := w.heap.size + 1) rfl (.int .i64 0) (.int .i64 0) (.int .i64 0)
  have h8 := St.exJoin (tabPs b (l ++ [⟨x, vk, va, vb⟩])) (a', c') (L := L) i HIL.out (by
    unfold tabPs
    rw [List.length_append, HN.out, flatR_app]
    exact h7)
  have HE := Lib.hid h8
  clear h7 h8
  refine bodyPost_ret (v := .tuple #[.agg #[.int .i64 0, .int .i64 0, .int .i64 0], .bool false]) (by simp [results, Try.results42, go_sem, e0, e1, e2]) rfl ⟨rfl, HE.out⟩
end Go.Proofs.Ytcmbbkaioopkhaa
