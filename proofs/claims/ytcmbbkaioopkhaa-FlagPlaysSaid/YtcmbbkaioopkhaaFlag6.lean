/-
  The package flag: a reader reads.
-/
import Derived.Test.YtcmbbkaioopkhaaFlag5
namespace Go.Proofs.Ytcmbbkaioopkhaa
open Go Go.RowKit
set_option linter.unusedVariables false
set_option linter.unusedSimpArgs false

theorem i64s_set (l : List Nat) (k m : Nat) : (i64s l).set k (.int .i64 (m : Int)) = i64s (l.set k m) := by simp [i64s, List.map_set]
theorem last_drop (F : FlagV) (p d : Nat) (hd : p + d = F.all.length) (hB : d ≤ F.bound) : F.last.drop (F.last.length - d) = F.all.drop p := by
  have h2 := F.last_len
  rw [h2]
  unfold FlagV.last
  rw [List.drop_drop]
  congr 1
  omega
/-- What stands when a reader has read. -/
def FlagV.seen (F : FlagV) (k : Nat) : FlagV := ⟨F.bound, F.all, F.pos.set k F.all.length⟩

set_option maxHeartbeats 1000000 in
theorem flag_read_no {w0 w : World} {L : List Asr} {b : Nat} {F : FlagV} (H : St w0 w L) (i : Nat) (hi : L[i]? = some (flagA b F)) (hp : F.pos.length ≤ 100) (k : Int) (hk : k < 0 ∨ F.pos.length ≤ k) :
    Calls Try.prog 18 #[.pointer (some ⟨b, 0, none⟩), .int .i64 k] w (Ret w (.tuple #[.slice none 0 0, .bool false, .int .i64 8])) := by
  have HC := Lib.hid (flag_behind_no H i hi hp k hk)
  clear H hi hk
  go_enter Try.func18, Try.ntmps18
  go_wp2_with fail
  refine (HC.out).mono ?_
  rintro e w1 ⟨rfl, hk1⟩
  have HK := Lib.hid hk1; clear hk1
  go_wp2_with fail
  go_ret3
  exact ⟨rfl, HK.out⟩

set_option maxRecDepth 2000 in
set_option maxHeartbeats 1000000 in
theorem flag_read_lag {w0 w : World} {L : List Asr} {b : Nat} {F : FlagV} (H : St w0 w L) (i : Nat) (hi : L[i]? = some (flagA b F)) (hp : F.pos.length ≤ 100) (hall : F.all.length ≤ 1000000) (hB2 : F.bound ≤ 1000) (k p d : Nat) (hk : F.pos[k]? = some p) (hd : p + d = F.all.length) (hdb : F.bound < d) :
    Calls Try.prog 18 #[.pointer (some ⟨b, 0, none⟩), .int .i64 k] w (fun e w' => e = .returned (.tuple #[.slice none 0 0, .bool true, .int .i64 0]) ∧ St w0 w' (L.set i (flagA b (F.seen k)))) := by
  have HC := Lib.hid (flag_behind_yes H i hi hp hall k p d hk hd)
  obtain ⟨la, lc, ra, rc, h⟩ := H.flagSplit i hi
  have HIL := Lib.hid (List.getElem?_eq_some_iff.1 hi).1
  have hkl := (List.getElem?_eq_some_iff.1 hk).1
  have hll := F.last_len
  have HLD := Lib.hid (last_drop F p d hd)
  obtain ⟨n, hn⟩ : ∃ n, F.pos.length = n := ⟨_, rfl⟩
  obtain ⟨m, hm⟩ : ∃ m, F.all.length = m := ⟨_, rfl⟩
  obtain ⟨nl, hnl⟩ : ∃ nl, F.last.length = nl := ⟨_, rfl⟩
  obtain ⟨B, hB⟩ : ∃ B, F.bound = B := ⟨_, rfl⟩
  unfold flagPs at h
  rw [hn, hm, hnl, hB] at h
  rw [hn] at hp hkl
  rw [hm] at hall hd
  rw [hB] at hdb hB2
  rw [hnl, hm, hB] at hll
  rw [hnl, hB] at HLD
  have HN := Lib.hid hn
  have HM := Lib.hid hm
  have HNL := Lib.hid hnl
  have HB := Lib.hid hB
  have b1 : (k : Int) < n := by omega
  have b2 : (0 : Int) ≤ k := by omega
  have b5 : d ≤ 1000000 := by omega
  have HH := Lib.hid h
  have HD := Lib.hid hd
  have HLL := Lib.hid hll
  clear h H hi hk hn hm hnl hB hd hll
  go_enter Try.func18, Try.ntmps18
  go_wp2_with fail
  refine (HC.out).mono ?_
  rintro e w1 ⟨rfl, hk1⟩
  have H1 := Lib.hid (HH.out.keep hk1); clear hk1 HH
  have c3 := (H1.out.blk 0 rfl).cell 3
  have c1 := (H1.out.blk 0 rfl).cell 1
  simp at c3 c1
  obtain ⟨g, rfl, hgl, hgf, hgc, hgs⟩ := H1.out.store 2 rfl (by omega)
  have ck := hgc k (by omega)
  have fk := hgf k
  have HXK := Lib.hid (show ∃ u, (i64s F.pos)[k]? = some u from ⟨_, List.getElem?_eq_getElem (by rw [i64s_len, HN.out]; exact hkl)⟩)
  obtain ⟨u, hu⟩ := HXK.out
  rw [hu] at ck
  have hcap := (H1.out.rd 2 rfl).choose_spec.1.cap
  unfold maxLen at hcap
  have HGS := Lib.hid hgs
  clear hgf hgc hgs hu HXK
  go_wp2_with fail
  refine wp_region_M (r := 9) (S := fun w' => w'.cell? ⟨b, 3, none⟩ = some (.slice (some ⟨g, 0, none⟩) n rc) ∧ w'.cell? ⟨b, 1, none⟩ = some (.int .i64 m)) (by kernel_rfl) ?_ (fun hHeld => ?_)
  · (try dsimp only); go_keep
  (refine wpAnyM_take (i := 0) (oi := ?_) (v := ?_) ?_ ?_ ?_ ?_ ?_ ?_ ?_ ?_ ?_ ?_; rotate_left 2; (· simp only [List.getElem?_toArray, List.getElem?_cons_succ, List.getElem?_cons_zero]; exact rfl); (· kernel_rfl); (· kernel_rfl); (· kernel_rfl); (· kernel_rfl); (· kernel_rfl); (· exact fun _ _ _ h => h); (· (refine Or.inl ⟨by rfl, ?_⟩; (intro w hSw; (try dsimp only at hSw); go_simp) <;> with_reducible rfl)); (· assumption); simp only [Act.put, List.setIfInBounds_toArray, List.set_cons_zero, List.set_cons_succ])
  (refine wpAnyM_take (i := 1) (oi := ?_) (v := ?_) ?_ ?_ ?_ ?_ ?_ ?_ ?_ ?_ ?_ ?_; rotate_left 2; (· simp only [List.getElem?_toArray, List.getElem?_cons_succ, List.getElem?_cons_zero]; exact rfl); (· kernel_rfl); (· kernel_rfl); (· kernel_rfl); (· kernel_rfl); (· kernel_rfl); (· exact fun _ _ _ h => h); (· (refine Or.inl ⟨by rfl, ?_⟩; (intro w hSw; (try dsimp only at hSw); go_simp) <;> with_reducible rfl)); (· assumption); simp only [Act.put, List.setIfInBounds_toArray, List.set_cons_zero, List.set_cons_succ])
  (refine wpAnyM_take (i := 2) (oi := ?_) (v := ?_) ?_ ?_ ?_ ?_ ?_ ?_ ?_ ?_ ?_ ?_; rotate_left 2; (· simp only [List.getElem?_toArray, List.getElem?_cons_succ, List.getElem?_cons_zero]; exact rfl); (· kernel_rfl); (· kernel_rfl); (· kernel_rfl); (· kernel_rfl); (· kernel_rfl); (· exact fun _ _ _ h => h); (· (refine Or.inl ⟨by rfl, ?_⟩; (intro w hSw; (try dsimp only at hSw); go_simp) <;> with_reducible rfl)); (· assumption); simp only [Act.put, List.setIfInBounds_toArray, List.set_cons_zero, List.set_cons_succ])
  (refine wpAnyM_take (i := 3) (oi := ?_) (v := ?_) ?_ ?_ ?_ ?_ ?_ ?_ ?_ ?_ ?_ ?_; rotate_left 2; (· simp only [List.getElem?_toArray, List.getElem?_cons_succ, List.getElem?_cons_zero]; exact rfl); (· kernel_rfl); (· kernel_rfl); (· kernel_rfl); (· kernel_rfl); (· kernel_rfl); (· exact fun _ _ _ h => h); (· (refine Or.inl ⟨by rfl, ?_⟩; (intro w hSw; (try dsimp only at hSw); go_simp) <;> with_reducible rfl)); (· assumption); simp only [Act.put, List.setIfInBounds_toArray, List.set_cons_zero, List.set_cons_succ])
  (refine wpAnyM_take (i := 4) (oi := ?_) (v := ?_) ?_ ?_ ?_ ?_ ?_ ?_ ?_ ?_ ?_ ?_; rotate_left 2; (· simp only [List.getElem?_toArray, List.getElem?_cons_succ, List.getElem?_cons_zero]; exact rfl); (· kernel_rfl); (· kernel_rfl); (· kernel_rfl); (· kernel_rfl); (· kernel_rfl); (· exact fun _ _ _ h => h); (· (refine Or.inl ⟨by rfl, ?_⟩; (intro w hSw; (try dsimp only at hSw); go_simp) <;> with_reducible rfl)); (· assumption); simp only [Act.put, List.setIfInBounds_toArray, List.set_cons_zero, List.set_cons_succ])
  (refine wpAnyM_take (i := 5) (oi := ?_) (v := ?_) ?_ ?_ ?_ ?_ ?_ ?_ ?_ ?_ ?_ ?_; rotate_left 2; (· simp only [List.getElem?_toArray, List.getElem?_cons_succ, List.getElem?_cons_zero]; exact rfl); (· kernel_rfl); (· kernel_rfl); (· kernel_rfl); (· kernel_rfl); (· kernel_rfl); (· exact fun _ _ _ h => h); (· (refine Or.inl ⟨by rfl, ?_⟩; (intro w hSw; (try dsimp only at hSw); go_simp) <;> with_reducible rfl)); (· assumption); simp only [Act.put, List.setIfInBounds_toArray, List.set_cons_zero, List.set_cons_succ])
  (refine wpAnyM_take (i := 6) (oi := ?_) (v := ?_) ?_ ?_ ?_ ?_ ?_ ?_ ?_ ?_ ?_ ?_; rotate_left 2; (· simp only [List.getElem?_toArray, List.getElem?_cons_succ, List.getElem?_cons_zero]; exact rfl); (· kernel_rfl); (· kernel_rfl); (· kernel_rfl); (· kernel_rfl); (· kernel_rfl); (· exact fun _ _ _ h => h); (· (refine Or.inl ⟨by rfl, ?_⟩; (intro w hSw; (try dsimp only at hSw); go_simp) <;> with_reducible rfl)); (· assumption); simp only [Act.put, List.setIfInBounds_toArray, List.set_cons_zero, List.set_cons_succ])
  (refine wpAnyM_take (i := 7) (oi := ?_) (v := ?_) ?_ ?_ ?_ ?_ ?_ ?_ ?_ ?_ ?_ ?_; rotate_left 2; (· simp only [List.getElem?_toArray, List.getElem?_cons_succ, List.getElem?_cons_zero]; exact rfl); (· kernel_rfl); (· kernel_rfl); (· kernel_rfl); (· kernel_rfl); (· kernel_rfl); (· exact fun _ _ _ h => h); (· (refine Or.inl ⟨by rfl, ?_⟩; (intro w hSw; (try dsimp only at hSw); go_simp) <;> with_reducible rfl)); (· assumption); simp only [Act.put, List.setIfInBounds_toArray, List.set_cons_zero, List.set_cons_succ])
  (refine wpAnyM_take (i := 8) (oi := ?_) (v := ?_) ?_ ?_ ?_ ?_ ?_ ?_ ?_ ?_ ?_ ?_; rotate_left 2; (· simp only [List.getElem?_toArray, List.getElem?_cons_succ, List.getElem?_cons_zero]; exact rfl); (· kernel_rfl); (· kernel_rfl); (· kernel_rfl); (· kernel_rfl); (· kernel_rfl); (· exact fun _ _ _ h => h); (· (refine Or.inl ⟨by rfl, ?_⟩; (intro w hSw; (try dsimp only at hSw); go_simp) <;> with_reducible rfl)); (· assumption); simp only [Act.put, List.setIfInBounds_toArray, List.set_cons_zero, List.set_cons_succ])
  refine wpAnyM_ready (rs := [9]) (by kernel_rfl) (by simp) ?_
  refine AllReadyM.free (o := ?_) ?_ (by kernel_rfl) ?_ ?_
  rotate_left 1
  · simp only [List.getElem?_toArray, List.getElem?_cons_succ, List.getElem?_cons_zero]; exact rfl
  rotate_left 1
  · exact AllReadyM.nil
  intro K hK
  go_simp
  refine hK.out _ _ ?_
  clear hK K
  refine wpAnyM_ready (rs := [10]) (by kernel_rfl) (by simp) ?_
  refine AllReadyM.free (o := ?_) ?_ (by kernel_rfl) ?_ ?_
  rotate_left 1
  · simp only [List.getElem?_toArray, List.getElem?_cons_succ, List.getElem?_cons_zero]; exact rfl
  rotate_left 1
  · exact AllReadyM.nil
  intro K hK
  go_simp
  refine hK.out _ _ ?_
  clear hK K
  refine wpAnyM_done (by kernel_rfl) ?_ _
  have h2 := (HGS.out k (.int .i64 (m : Int))).drew
  obtain ⟨w2, hw2⟩ : ∃ w2, w2 = (w1.setCell ⟨g, k, none⟩ (.int .i64 (m : Int))).drew := ⟨_, rfl⟩
  rw [← hw2] at h2 ⊢
  rw [i64s_set] at h2
  have H2 := Lib.hid (show St w0 w2 ([blkA b #[.int .i64 B, .int .i64 m, .slice la nl lc, .slice (some ⟨g, 0, none⟩) n rc] 85, slA 34 2 (.slice la nl lc) nl (flatEv F.last), slA 2 1 (.slice (some ⟨g, 0, none⟩) n rc) n (i64s (F.pos.set k m))] ++ L.set i empA) from h2)
  clear h2 hw2 H1 HGS c3 c1 ck fk hgl hHeld
  have c20 := (H2.out.blk 0 rfl).cell 0
  have c22 := (H2.out.blk 0 rfl).cell 2
  simp at c20 c22
  go_wp2_with fail
  go_ret3
  refine ⟨rfl, ?_⟩
  refine St.flagJoin (la := la) (lc := lc) (ra := some ⟨g, 0, none⟩) (rc := rc) i HIL.out ?_
  unfold flagPs FlagV.seen
  have e1 : (F.pos.set k F.all.length).length = n := by rw [List.length_set, HN.out]
  have e2 : (⟨F.bound, F.all, F.pos.set k F.all.length⟩ : FlagV).last = F.last := rfl
  rw [e1, e2, HM.out, HNL.out, HB.out]
  exact H2.out

set_option maxRecDepth 2000 in
set_option maxHeartbeats 1000000 in
theorem flag_read_yes {w0 w : World} {L : List Asr} {b : Nat} {F : FlagV} (H : St w0 w L) (i : Nat) (hi : L[i]? = some (flagA b F)) (hp : F.pos.length ≤ 100) (hall : F.all.length ≤ 1000000) (hB2 : F.bound ≤ 1000) (k p d : Nat) (hk : F.pos[k]? = some p) (hd : p + d = F.all.length) (hdb : d ≤ F.bound) :
    Calls Try.prog 18 #[.pointer (some ⟨b, 0, none⟩), .int .i64 k] w (fun e w' => ∃ a n c, e = .returned (.tuple #[.slice a n c, .bool false, .int .i64 0]) ∧ n = d ∧ St w0 w' (L.set i (flagA b (F.seen k)) ++ [slA 34 2 (.slice a n c) n (flatEv (F.all.drop p))])) := by
  have HC := Lib.hid (flag_behind_yes H i hi hp hall k p d hk hd)
  obtain ⟨la, lc, ra, rc, h⟩ := H.flagSplit i hi
  have HIL := Lib.hid (List.getElem?_eq_some_iff.1 hi).1
  have hkl := (List.getElem?_eq_some_iff.1 hk).1
  have hll := F.last_len
  have HLD := Lib.hid (last_drop F p d hd)
  obtain ⟨n, hn⟩ : ∃ n, F.pos.length = n := ⟨_, rfl⟩
  obtain ⟨m, hm⟩ : ∃ m, F.all.length = m := ⟨_, rfl⟩
  obtain ⟨nl, hnl⟩ : ∃ nl, F.last.length = nl := ⟨_, rfl⟩
  obtain ⟨B, hB⟩ : ∃ B, F.bound = B := ⟨_, rfl⟩
  unfold flagPs at h
  rw [hn, hm, hnl, hB] at h
  rw [hn] at hp hkl
  rw [hm] at hall hd
  rw [hB] at hdb hB2
  rw [hnl, hm, hB] at hll
  rw [hnl, hB] at HLD
  have HN := Lib.hid hn
  have HM := Lib.hid hm
  have HNL := Lib.hid hnl
  have HB := Lib.hid hB
  have b1 : (k : Int) < n := by omega
  have b2 : (0 : Int) ≤ k := by omega
  have b5 : d ≤ 1000000 := by omega
  have HH := Lib.hid h
  have HD := Lib.hid hd
  have HLL := Lib.hid hll
  clear h H hi hk hn hm hnl hB hd hll
  go_enter Try.func18, Try.ntmps18
  go_wp2_with fail
  refine (HC.out).mono ?_
  rintro e w1 ⟨rfl, hk1⟩
  have H1 := Lib.hid (HH.out.keep hk1); clear hk1 HH
  have c3 := (H1.out.blk 0 rfl).cell 3
  have c1 := (H1.out.blk 0 rfl).cell 1
  simp at c3 c1
  obtain ⟨g, rfl, hgl, hgf, hgc, hgs⟩ := H1.out.store 2 rfl (by omega)
  have ck := hgc k (by omega)
  have fk := hgf k
  have HXK := Lib.hid (show ∃ u, (i64s F.pos)[k]? = some u from ⟨_, List.getElem?_eq_getElem (by rw [i64s_len, HN.out]; exact hkl)⟩)
  obtain ⟨u, hu⟩ := HXK.out
  rw [hu] at ck
  have hcap := (H1.out.rd 2 rfl).choose_spec.1.cap
  unfold maxLen at hcap
  have HGS := Lib.hid hgs
  clear hgf hgc hgs hu HXK
  go_wp2_with fail
  refine wp_region_M (r := 9) (S := fun w' => w'.cell? ⟨b, 3, none⟩ = some (.slice (some ⟨g, 0, none⟩) n rc) ∧ w'.cell? ⟨b, 1, none⟩ = some (.int .i64 m)) (by kernel_rfl) ?_ (fun hHeld => ?_)
  · (try dsimp only); go_keep
  (refine wpAnyM_take (i := 0) (oi := ?_) (v := ?_) ?_ ?_ ?_ ?_ ?_ ?_ ?_ ?_ ?_ ?_; rotate_left 2; (· simp only [List.getElem?_toArray, List.getElem?_cons_succ, List.getElem?_cons_zero]; exact rfl); (· kernel_rfl); (· kernel_rfl); (· kernel_rfl); (· kernel_rfl); (· kernel_rfl); (· exact fun _ _ _ h => h); (· (refine Or.inl ⟨by rfl, ?_⟩; (intro w hSw; (try dsimp only at hSw); go_simp) <;> with_reducible rfl)); (· assumption); simp only [Act.put, List.setIfInBounds_toArray, List.set_cons_zero, List.set_cons_succ])
  (refine wpAnyM_take (i := 1) (oi := ?_) (v := ?_) ?_ ?_ ?_ ?_ ?_ ?_ ?_ ?_ ?_ ?_; rotate_left 2; (· simp only [List.getElem?_toArray, List.getElem?_cons_succ, List.getElem?_cons_zero]; exact rfl); (· kernel_rfl); (· kernel_rfl); (· kernel_rfl); (· kernel_rfl); (· kernel_rfl); (· exact fun _ _ _ h => h); (· (refine Or.inl ⟨by rfl, ?_⟩; (intro w hSw; (try dsimp only at hSw); go_simp) <;> with_reducible rfl)); (· assumption); simp only [Act.put, List.setIfInBounds_toArray, List.set_cons_zero, List.set_cons_succ])
  (refine wpAnyM_take (i := 2) (oi := ?_) (v := ?_) ?_ ?_ ?_ ?_ ?_ ?_ ?_ ?_ ?_ ?_; rotate_left 2; (· simp only [List.getElem?_toArray, List.getElem?_cons_succ, List.getElem?_cons_zero]; exact rfl); (· kernel_rfl); (· kernel_rfl); (· kernel_rfl); (· kernel_rfl); (· kernel_rfl); (· exact fun _ _ _ h => h); (· (refine Or.inl ⟨by rfl, ?_⟩; (intro w hSw; (try dsimp only at hSw); go_simp) <;> with_reducible rfl)); (· assumption); simp only [Act.put, List.setIfInBounds_toArray, List.set_cons_zero, List.set_cons_succ])
  (refine wpAnyM_take (i := 3) (oi := ?_) (v := ?_) ?_ ?_ ?_ ?_ ?_ ?_ ?_ ?_ ?_ ?_; rotate_left 2; (· simp only [List.getElem?_toArray, List.getElem?_cons_succ, List.getElem?_cons_zero]; exact rfl); (· kernel_rfl); (· kernel_rfl); (· kernel_rfl); (· kernel_rfl); (· kernel_rfl); (· exact fun _ _ _ h => h); (· (refine Or.inl ⟨by rfl, ?_⟩; (intro w hSw; (try dsimp only at hSw); go_simp) <;> with_reducible rfl)); (· assumption); simp only [Act.put, List.setIfInBounds_toArray, List.set_cons_zero, List.set_cons_succ])
  (refine wpAnyM_take (i := 4) (oi := ?_) (v := ?_) ?_ ?_ ?_ ?_ ?_ ?_ ?_ ?_ ?_ ?_; rotate_left 2; (· simp only [List.getElem?_toArray, List.getElem?_cons_succ, List.getElem?_cons_zero]; exact rfl); (· kernel_rfl); (· kernel_rfl); (· kernel_rfl); (· kernel_rfl); (· kernel_rfl); (· exact fun _ _ _ h => h); (· (refine Or.inl ⟨by rfl, ?_⟩; (intro w hSw; (try dsimp only at hSw); go_simp) <;> with_reducible rfl)); (· assumption); simp only [Act.put, List.setIfInBounds_toArray, List.set_cons_zero, List.set_cons_succ])
  (refine wpAnyM_take (i := 5) (oi := ?_) (v := ?_) ?_ ?_ ?_ ?_ ?_ ?_ ?_ ?_ ?_ ?_; rotate_left 2; (· simp only [List.getElem?_toArray, List.getElem?_cons_succ, List.getElem?_cons_zero]; exact rfl); (· kernel_rfl); (· kernel_rfl); (· kernel_rfl); (· kernel_rfl); (· kernel_rfl); (· exact fun _ _ _ h => h); (· (refine Or.inl ⟨by rfl, ?_⟩; (intro w hSw; (try dsimp only at hSw); go_simp) <;> with_reducible rfl)); (· assumption); simp only [Act.put, List.setIfInBounds_toArray, List.set_cons_zero, List.set_cons_succ])
  (refine wpAnyM_take (i := 6) (oi := ?_) (v := ?_) ?_ ?_ ?_ ?_ ?_ ?_ ?_ ?_ ?_ ?_; rotate_left 2; (· simp only [List.getElem?_toArray, List.getElem?_cons_succ, List.getElem?_cons_zero]; exact rfl); (· kernel_rfl); (· kernel_rfl); (· kernel_rfl); (· kernel_rfl); (· kernel_rfl); (· exact fun _ _ _ h => h); (· (refine Or.inl ⟨by rfl, ?_⟩; (intro w hSw; (try dsimp only at hSw); go_simp) <;> with_reducible rfl)); (· assumption); simp only [Act.put, List.setIfInBounds_toArray, List.set_cons_zero, List.set_cons_succ])
  (refine wpAnyM_take (i := 7) (oi := ?_) (v := ?_) ?_ ?_ ?_ ?_ ?_ ?_ ?_ ?_ ?_ ?_; rotate_left 2; (· simp only [List.getElem?_toArray, List.getElem?_cons_succ, List.getElem?_cons_zero]; exact rfl); (· kernel_rfl); (· kernel_rfl); (· kernel_rfl); (· kernel_rfl); (· kernel_rfl); (· exact fun _ _ _ h => h); (· (refine Or.inl ⟨by rfl, ?_⟩; (intro w hSw; (try dsimp only at hSw); go_simp) <;> with_reducible rfl)); (· assumption); simp only [Act.put, List.setIfInBounds_toArray, List.set_cons_zero, List.set_cons_succ])
  (refine wpAnyM_take (i := 8) (oi := ?_) (v := ?_) ?_ ?_ ?_ ?_ ?_ ?_ ?_ ?_ ?_ ?_; rotate_left 2; (· simp only [List.getElem?_toArray, List.getElem?_cons_succ, List.getElem?_cons_zero]; exact rfl); (· kernel_rfl); (· kernel_rfl); (· kernel_rfl); (· kernel_rfl); (· kernel_rfl); (· exact fun _ _ _ h => h); (· (refine Or.inl ⟨by rfl, ?_⟩; (intro w hSw; (try dsimp only at hSw); go_simp) <;> with_reducible rfl)); (· assumption); simp only [Act.put, List.setIfInBounds_toArray, List.set_cons_zero, List.set_cons_succ])
  refine wpAnyM_ready (rs := [9]) (by kernel_rfl) (by simp) ?_
  refine AllReadyM.free (o := ?_) ?_ (by kernel_rfl) ?_ ?_
  rotate_left 1
  · simp only [List.getElem?_toArray, List.getElem?_cons_succ, List.getElem?_cons_zero]; exact rfl
  rotate_left 1
  · exact AllReadyM.nil
  intro K hK
  go_simp
  refine hK.out _ _ ?_
  clear hK K
  refine wpAnyM_ready (rs := [10]) (by kernel_rfl) (by simp) ?_
  refine AllReadyM.free (o := ?_) ?_ (by kernel_rfl) ?_ ?_
  rotate_left 1
  · simp only [List.getElem?_toArray, List.getElem?_cons_succ, List.getElem?_cons_zero]; exact rfl
  rotate_left 1
  · exact AllReadyM.nil
  intro K hK
  go_simp
  refine hK.out _ _ ?_
  clear hK K
  refine wpAnyM_done (by kernel_rfl) ?_ _
  have h2 := (HGS.out k (.int .i64 (m : Int))).drew
  obtain ⟨w2, hw2⟩ : ∃ w2, w2 = (w1.setCell ⟨g, k, none⟩ (.int .i64 (m : Int))).drew := ⟨_, rfl⟩
  rw [← hw2] at h2 ⊢
  rw [i64s_set] at h2
  have H2 := Lib.hid (show St w0 w2 ([blkA b #[.int .i64 B, .int .i64 m, .slice la nl lc, .slice (some ⟨g, 0, none⟩) n rc] 85, slA 34 2 (.slice la nl lc) nl (flatEv F.last), slA 2 1 (.slice (some ⟨g, 0, none⟩) n rc) n (i64s (F.pos.set k m))] ++ L.set i empA) from h2)
  clear h2 hw2 H1 HGS c3 c1 ck fk hgl hHeld
  have c20 := (H2.out.blk 0 rfl).cell 0
  have c22 := (H2.out.blk 0 rfl).cell 2
  simp at c20 c22
  obtain ⟨q, hq⟩ : ∃ q, nl - d = q := ⟨_, rfl⟩
  have hq3 : q ≤ nl := by omega
  have hdl : d ≤ nl := by have := HLL.out; have := HD.out; omega
  have hqi : (q : Int) = (nl : Int) - d := by omega
  have hq2 : (0 : Int) ≤ (nl : Int) - d := by omega
  have hnl2 : nl ≤ 1000 := by have := HLL.out; omega
  obtain ⟨S4, ho4, hr4, _⟩ := H2.out.rd 1 rfl
  have hcap1 := ho4.cap.1
  have HR4 := Lib.hid hr4
  have HXL := Lib.hid ho4.len
  clear ho4 hr4
  have hdb' : ¬ (B : Int) < (d : Int) := by omega
  have HQ := Lib.hid hq
  have HQQ := Lib.hid (show IntKind.i64.wrap ((nl : Int) - d) = q by rw [IntWalk.i64_in _ (by omega)]; omega)
  clear hq hqi
  go_wp2_with fail
  have hw := HQQ.out
  refine wp_region_M (r := 13) (S := fun w' => w'.cell? ⟨b, 2, none⟩ = some (.slice la nl lc)) (by kernel_rfl) ?_ (fun hHeld => ?_)
  · (try dsimp only); go_keep
  (refine wpAnyM_take (i := 0) (oi := ?_) (v := ?_) ?_ ?_ ?_ ?_ ?_ ?_ ?_ ?_ ?_ ?_; rotate_left 2; (· simp only [List.getElem?_toArray, List.getElem?_cons_succ, List.getElem?_cons_zero]; exact rfl); (· kernel_rfl); (· kernel_rfl); (· kernel_rfl); (· kernel_rfl); (· kernel_rfl); (· exact fun _ _ _ h => h); (· (refine Or.inl ⟨by rfl, ?_⟩; (intro w hSw; (try dsimp only at hSw); go_simp) <;> with_reducible rfl)); (· assumption); simp only [Act.put, List.setIfInBounds_toArray, List.set_cons_zero, List.set_cons_succ])
  (refine wpAnyM_take (i := 1) (oi := ?_) (v := ?_) ?_ ?_ ?_ ?_ ?_ ?_ ?_ ?_ ?_ ?_; rotate_left 2; (· simp only [List.getElem?_toArray, List.getElem?_cons_succ, List.getElem?_cons_zero]; exact rfl); (· kernel_rfl); (· kernel_rfl); (· kernel_rfl); (· kernel_rfl); (· kernel_rfl); (· exact fun _ _ _ h => h); (· (refine Or.inl ⟨by rfl, ?_⟩; (intro w hSw; (try dsimp only at hSw); go_simp) <;> with_reducible rfl)); (· assumption); simp only [Act.put, List.setIfInBounds_toArray, List.set_cons_zero, List.set_cons_succ])
  (refine wpAnyM_take (i := 2) (oi := ?_) (v := ?_) ?_ ?_ ?_ ?_ ?_ ?_ ?_ ?_ ?_ ?_; rotate_left 2; (· simp only [List.getElem?_toArray, List.getElem?_cons_succ, List.getElem?_cons_zero]; exact rfl); (· kernel_rfl); (· kernel_rfl); (· kernel_rfl); (· kernel_rfl); (· kernel_rfl); (· exact fun _ _ _ h => h); (· (refine Or.inl ⟨by rfl, ?_⟩; (intro w hSw; (try dsimp only at hSw); go_simp) <;> with_reducible rfl)); (· assumption); simp only [Act.put, List.setIfInBounds_toArray, List.set_cons_zero, List.set_cons_succ])
  (refine wpAnyM_take (i := 3) (oi := ?_) (v := ?_) ?_ ?_ ?_ ?_ ?_ ?_ ?_ ?_ ?_ ?_; rotate_left 2; (· simp only [List.getElem?_toArray, List.getElem?_cons_succ, List.getElem?_cons_zero]; exact rfl); (· kernel_rfl); (· kernel_rfl); (· kernel_rfl); (· kernel_rfl); (· kernel_rfl); (· exact fun _ _ _ h => h); (· (refine Or.inl ⟨by rfl, ?_⟩; (intro w hSw; (try dsimp only at hSw); go_simp) <;> with_reducible rfl)); (· assumption); simp only [Act.put, List.setIfInBounds_toArray, List.set_cons_zero, List.set_cons_succ])
  (refine wpAnyM_take (i := 4) (oi := ?_) (v := ?_) ?_ ?_ ?_ ?_ ?_ ?_ ?_ ?_ ?_ ?_; rotate_left 2; (· simp only [List.getElem?_toArray, List.getElem?_cons_succ, List.getElem?_cons_zero]; exact rfl); (· kernel_rfl); (· kernel_rfl); (· kernel_rfl); (· kernel_rfl); (· kernel_rfl); (· exact fun _ _ _ h => h); (· (refine Or.inl ⟨by rfl, ?_⟩; (intro w hSw; (try dsimp only at hSw); go_simp) <;> with_reducible rfl)); (· assumption); simp only [Act.put, List.setIfInBounds_toArray, List.set_cons_zero, List.set_cons_succ])
  (refine wpAnyM_take (i := 5) (oi := ?_) (v := ?_) ?_ ?_ ?_ ?_ ?_ ?_ ?_ ?_ ?_ ?_; rotate_left 2; (· simp only [List.getElem?_toArray, List.getElem?_cons_succ, List.getElem?_cons_zero]; exact rfl); (· kernel_rfl); (· kernel_rfl); (· kernel_rfl); (· kernel_rfl); (· kernel_rfl); (· exact fun _ _ _ h => h); (· (refine Or.inl ⟨by rfl, ?_⟩; (intro w hSw; (try dsimp only at hSw); go_simp) <;> with_reducible rfl)); (· assumption); simp only [Act.put, List.setIfInBounds_toArray, List.set_cons_zero, List.set_cons_succ])
  (refine wpAnyM_take (i := 6) (oi := ?_) (v := ?_) ?_ ?_ ?_ ?_ ?_ ?_ ?_ ?_ ?_ ?_; rotate_left 2; (· simp only [List.getElem?_toArray, List.getElem?_cons_succ, List.getElem?_cons_zero]; exact rfl); (· kernel_rfl); (· kernel_rfl); (· kernel_rfl); (· kernel_rfl); (· kernel_rfl); (· exact fun _ _ _ h => h); (· (refine Or.inl ⟨by rfl, ?_⟩; (intro w hSw; (try dsimp only at hSw); go_simp) <;> with_reducible rfl)); (· assumption); simp only [Act.put, List.setIfInBounds_toArray, List.set_cons_zero, List.set_cons_succ])
  (refine wpAnyM_take (i := 7) (oi := ?_) (v := ?_) ?_ ?_ ?_ ?_ ?_ ?_ ?_ ?_ ?_ ?_; rotate_left 2; (· simp only [List.getElem?_toArray, List.getElem?_cons_succ, List.getElem?_cons_zero]; exact rfl); (· kernel_rfl); (· kernel_rfl); (· kernel_rfl); (· kernel_rfl); (· kernel_rfl); (· exact fun _ _ _ h => h); (· (refine Or.inl ⟨by rfl, ?_⟩; (intro w hSw; (try dsimp only at hSw); go_simp) <;> with_reducible rfl)); (· assumption); simp only [Act.put, List.setIfInBounds_toArray, List.set_cons_zero, List.set_cons_succ])
  (refine wpAnyM_take (i := 8) (oi := ?_) (v := ?_) ?_ ?_ ?_ ?_ ?_ ?_ ?_ ?_ ?_ ?_; rotate_left 2; (· simp only [List.getElem?_toArray, List.getElem?_cons_succ, List.getElem?_cons_zero]; exact rfl); (· kernel_rfl); (· kernel_rfl); (· kernel_rfl); (· kernel_rfl); (· kernel_rfl); (· exact fun _ _ _ h => h); (· (refine Or.inl ⟨by rfl, ?_⟩; (intro w hSw; (try dsimp only at hSw); go_simp) <;> with_reducible rfl)); (· assumption); simp only [Act.put, List.setIfInBounds_toArray, List.set_cons_zero, List.set_cons_succ])
  (refine wpAnyM_take (i := 9) (oi := ?_) (v := ?_) ?_ ?_ ?_ ?_ ?_ ?_ ?_ ?_ ?_ ?_; rotate_left 2; (· simp only [List.getElem?_toArray, List.getElem?_cons_succ, List.getElem?_cons_zero]; exact rfl); (· kernel_rfl); (· kernel_rfl); (· kernel_rfl); (· kernel_rfl); (· kernel_rfl); (· exact fun _ _ _ h => h); (· (refine Or.inl ⟨by rfl, ?_⟩; (intro w hSw; (try dsimp only at hSw); go_simp) <;> with_reducible rfl)); (· assumption); simp only [Act.put, List.setIfInBounds_toArray, List.set_cons_zero, List.set_cons_succ])
  (refine wpAnyM_take (i := 10) (oi := ?_) (v := ?_) ?_ ?_ ?_ ?_ ?_ ?_ ?_ ?_ ?_ ?_; rotate_left 2; (· simp only [List.getElem?_toArray, List.getElem?_cons_succ, List.getElem?_cons_zero]; exact rfl); (· kernel_rfl); (· kernel_rfl); (· kernel_rfl); (· kernel_rfl); (· kernel_rfl); (· exact fun _ _ _ h => h); (· (refine Or.inl ⟨by rfl, ?_⟩; (intro w hSw; (try dsimp only at hSw); go_simp) <;> with_reducible rfl)); (· assumption); simp only [Act.put, List.setIfInBounds_toArray, List.set_cons_zero, List.set_cons_succ])
  refine wpAnyM_ready (rs := [11]) (by kernel_rfl) (by simp) ?_
  refine AllReadyM.cons (o := ?_) ?_ ?_ ?_
  rotate_left 1
  · simp only [List.getElem?_toArray, List.getElem?_cons_succ, List.getElem?_cons_zero]; exact rfl
  rotate_left 1
  · exact AllReadyM.nil
  intro K hK
  rw [if_pos (by rfl)]
  (clear hw; refine step_slice_l (l := q) slEv _ _ rfl rfl rfl hq3 hcap1 ?_; rintro a5 n5 c5 hcut; have HCut := Lib.hid hcut; have hn5 : n5 ≤ 2000 := (by have := hcut.num; omega); clear hcut)
  refine hK.out _ _ ?_ (fun hHeld => ?_)
  · (try dsimp only); exact hHeld
  clear hK K
  (try simp only [List.getElem_toArray, List.getElem_cons_succ, List.getElem_cons_zero, Act.put, List.setIfInBounds_toArray, List.set_cons_zero, List.set_cons_succ])
  refine wpAnyM_ready (rs := [12]) (by kernel_rfl) (by simp) ?_
  refine AllReadyM.cons (o := ?_) ?_ ?_ ?_
  rotate_left 1
  · simp only [List.getElem?_toArray, List.getElem?_cons_succ, List.getElem?_cons_zero]; exact rfl
  rotate_left 1
  · exact AllReadyM.nil
  intro K hK
  go_simp
  go_wp2_with ((go_at_call 41; refine (clone_ev (.slice a5 n5 c5) n5 (flatEv (F.last.drop q)) _ S4 ?cr ?cl (flatEv_one _) ?cb).mono ?_; (case cr => (rw [← flatEv_drop]; exact HCut.out.rd S4 _ _ HXL.out HR4.out)); (case cl => (rw [flatEv_len, List.length_drop]; have := HNL.out; have := HCut.out.num; omega)); (case cb => omega); rintro e w5 ⟨a6, n6, c6, rfl, ho6, hk6⟩; have HO6 := Lib.hid ho6; have HK6 := Lib.hid hk6; clear ho6 hk6))
  refine hK.out _ _ ?_ (fun hHeld => ?_)
  · (try dsimp only); exact HK6.out.cell hHeld (fun f => f)
  clear hK K
  refine wpAnyM_ready (rs := [13]) (by kernel_rfl) (by simp) ?_
  refine AllReadyM.free (o := ?_) ?_ (by kernel_rfl) ?_ ?_
  rotate_left 1
  · simp only [List.getElem?_toArray, List.getElem?_cons_succ, List.getElem?_cons_zero]; exact rfl
  rotate_left 1
  · exact AllReadyM.nil
  intro K hK
  go_simp
  refine hK.out _ _ ?_
  clear hK K
  refine wpAnyM_ready (rs := [14]) (by kernel_rfl) (by simp) ?_
  refine AllReadyM.free (o := ?_) ?_ (by kernel_rfl) ?_ ?_
  rotate_left 1
  · simp only [List.getElem?_toArray, List.getElem?_cons_succ, List.getElem?_cons_zero]; exact rfl
  rotate_left 1
  · exact AllReadyM.nil
  intro K hK
  go_simp
  refine hK.out _ _ ?_
  clear hK K
  refine wpAnyM_ready (rs := [15]) (by kernel_rfl) (by simp) ?_
  refine AllReadyM.free (o := ?_) ?_ (by kernel_rfl) ?_ ?_
  rotate_left 1
  · simp only [List.getElem?_toArray, List.getElem?_cons_succ, List.getElem?_cons_zero]; exact rfl
  rotate_left 1
  · exact AllReadyM.nil
  intro K hK
  go_simp
  refine hK.out _ _ ?_
  clear hK K
  refine wpAnyM_done (by kernel_rfl) ?_ _
  go_wp2_with fail
  go_ret3
  have hlen := Own.len HO6.out
  rw [flatEv_len, List.length_drop, HNL.out] at hlen
  have e6 : n6 = d := by have := HQ.out; omega
  subst e6
  refine ⟨a6, n6, c6, rfl, rfl, ?_⟩
  have h6 := (H2.out.drew).add HK6.out (A := slA 34 2 (.slice a6 n6 c6) n6 (flatEv (F.last.drop q))) HO6.out
  rw [← HLD.out hdb, HQ.out]
  have h8 := h6.pick (l' := flagPs b (F.seen k) la lc (some ⟨g, 0, none⟩) rc ++ (L ++ [slA 34 2 (.slice a6 n6 c6) n6 (flatEv (F.last.drop q))]).set i empA) (fun j => j) (fun _ _ _ _ e => e) (fun j A hj => ?_)
  · have h9 := h8.flagJoin (L := L ++ [slA 34 2 (.slice a6 n6 c6) n6 (flatEv (F.last.drop q))]) i (by have := HIL.out; simp; omega)
    rw [List.set_append_left _ _ HIL.out] at h9
    exact h9
  · rw [← hj, List.set_append_left _ _ HIL.out, ← List.append_assoc]
    congr 2
    unfold flagPs FlagV.seen
    have e1 : (F.pos.set k F.all.length).length = n := by rw [List.length_set, HN.out]
    have e2 : (⟨F.bound, F.all, F.pos.set k F.all.length⟩ : FlagV).last = F.last := rfl
    rw [e1, e2, HM.out, HNL.out, HB.out]
end Go.Proofs.Ytcmbbkaioopkhaa
