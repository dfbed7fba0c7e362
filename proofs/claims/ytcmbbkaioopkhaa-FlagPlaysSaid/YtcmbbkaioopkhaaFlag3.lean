/-
  The package flag: a reader joins.
-/
import Derived.Test.YtcmbbkaioopkhaaFlag2
import Derived.Test.YtcmbbkaioopkhaaHeld
namespace Go.Proofs.Ytcmbbkaioopkhaa
open Go Go.RowKit
set_option linter.unusedVariables false
set_option linter.unusedSimpArgs false

theorem slI64 : SlTy Try.prog 83 2 1 8 := SlTy.mk' (.int .i64 0) Try.underlying83 (by kernel_rfl) rfl (by decide)
theorem i64s_len (l : List Nat) : (i64s l).length = l.length := by simp [i64s]
theorem i64s_app (a b : List Nat) : i64s (a ++ b) = i64s a ++ i64s b := by simp [i64s]
theorem i64s_one (l : List Nat) : ∀ u ∈ i64s l, u.oneCell' = true := by
  intro u hu
  obtain ⟨n, _, rfl⟩ := List.mem_map.1 hu
  rfl
theorem rd_one64 (w : World) (n : Nat) : Rd (fun z => z = w.heap.size) (w.alloc (.cells #[.int .i64 (n : Int)] 2)) (.slice (some ⟨w.heap.size, 0, none⟩) 1 1) 1 (i64s [n]) :=
  (Own.lit (S := fun z => z = w.heap.size) w 2 1 1 #[.int .i64 (n : Int)] (by decide) rfl rfl).rd

set_option maxHeartbeats 1000000 in
theorem flag_reader {w0 w : World} {L : List Asr} {b : Nat} {F : FlagV} (H : St w0 w L) (i : Nat) (hi : L[i]? = some (flagA b F)) (hp : F.pos.length < 100) :
    Calls Try.prog 16 #[.pointer (some ⟨b, 0, none⟩)] w (fun e w' => e = .returned (.tuple #[.int .i64 F.pos.length, .int .i64 0]) ∧ St w0 w' (L.set i (flagA b ⟨F.bound, F.all, F.pos ++ [F.all.length]⟩))) := by
  obtain ⟨la, lc, ra, rc, h⟩ := H.flagSplit i hi
  have HIL := Lib.hid (List.getElem?_eq_some_iff.1 hi).1
  obtain ⟨n, hn⟩ : ∃ n, F.pos.length = n := ⟨_, rfl⟩
  obtain ⟨xs, hxs⟩ : ∃ xs, i64s F.pos = xs := ⟨_, rfl⟩
  obtain ⟨m, hm⟩ : ∃ m, F.all.length = m := ⟨_, rfl⟩
  unfold flagPs at h
  rw [hn, hxs, hm] at h
  rw [hn] at hp
  have c3 := (h.blk 0 rfl).cell 3
  have c1 := (h.blk 0 rfl).cell 1
  simp at c3 c1
  obtain ⟨G, hown, _, hup, _⟩ := h.opens 2 rfl
  have HOwn : Hid (Own G w 2 1 (.slice ra n rc) n xs) := Lib.hid hown
  have HUP := Lib.hid hup
  have HN := Lib.hid hn
  have HX := Lib.hid hxs
  have HM := Lib.hid hm
  rw [hn]
  clear h H hi hown hup hn hxs hm
  go_enter Try.func16, Try.ntmps16
  go_wp2_with fail
  refine wp_region_M (r := 11) (S := fun w' => w'.cell? ⟨b, 3, none⟩ = some (.slice ra n rc) ∧ w'.cell? ⟨b, 1, none⟩ = some (.int .i64 m)) (by kernel_rfl) ?_ (fun hHeld => ?_)
  · (try dsimp only); go_keep
  (refine wpAnyM_take (i := 0) (oi := ?_) (v := ?_) ?_ ?_ ?_ ?_ ?_ ?_ ?_ ?_ ?_ ?_; rotate_left 2; (· simp only [List.getElem?_toArray, List.getElem?_cons_succ, List.getElem?_cons_zero]; exact rfl); (· kernel_rfl); (· kernel_rfl); (· kernel_rfl); (· kernel_rfl); (· kernel_rfl); (· exact fun _ _ _ h => h); (· (refine Or.inl ⟨by rfl, ?_⟩; (intro w hSw; (try dsimp only at hSw); go_simp) <;> with_reducible rfl)); (· assumption); simp only [Act.put, List.setIfInBounds_toArray, List.set_cons_zero, List.set_cons_succ])
  (refine wpAnyM_take (i := 1) (oi := ?_) (v := ?_) ?_ ?_ ?_ ?_ ?_ ?_ ?_ ?_ ?_ ?_; rotate_left 2; (· simp only [List.getElem?_toArray, List.getElem?_cons_succ, List.getElem?_cons_zero]; exact rfl); (· kernel_rfl); (· kernel_rfl); (· kernel_rfl); (· kernel_rfl); (· kernel_rfl); (· exact fun _ _ _ h => h); (· (refine Or.inl ⟨by rfl, ?_⟩; (intro w hSw; (try dsimp only at hSw); go_simp) <;> with_reducible rfl)); (· assumption); simp only [Act.put, List.setIfInBounds_toArray, List.set_cons_zero, List.set_cons_succ])
  (refine wpAnyM_take (i := 2) (oi := ?_) (v := ?_) ?_ ?_ ?_ ?_ ?_ ?_ ?_ ?_ ?_ ?_; rotate_left 2; (· simp only [List.getElem?_toArray, List.getElem?_cons_succ, List.getElem?_cons_zero]; exact rfl); (· kernel_rfl); (· kernel_rfl); (· kernel_rfl); (· kernel_rfl); (· kernel_rfl); (· exact fun _ _ _ h => h); (· (refine Or.inl ⟨by rfl, ?_⟩; (intro w hSw; (try dsimp only at hSw); go_simp) <;> with_reducible rfl)); (· assumption); simp only [Act.put, List.setIfInBounds_toArray, List.set_cons_zero, List.set_cons_succ])
  (refine wpAnyM_take (i := 3) (oi := ?_) (v := ?_) ?_ ?_ ?_ ?_ ?_ ?_ ?_ ?_ ?_ ?_; rotate_left 2; (· simp only [List.getElem?_toArray, List.getElem?_cons_succ, List.getElem?_cons_zero]; exact rfl); (· kernel_rfl); (· kernel_rfl); (· kernel_rfl); (· kernel_rfl); (· kernel_rfl); (· exact fun _ _ _ h => h); (· (refine Or.inl ⟨by rfl, ?_⟩; (intro w hSw; (try dsimp only at hSw); go_simp) <;> with_reducible rfl)); (· assumption); simp only [Act.put, List.setIfInBounds_toArray, List.set_cons_zero, List.set_cons_succ])
  (refine wpAnyM_take (i := 4) (oi := ?_) (v := ?_) ?_ ?_ ?_ ?_ ?_ ?_ ?_ ?_ ?_ ?_; rotate_left 2; (· simp only [List.getElem?_toArray, List.getElem?_cons_succ, List.getElem?_cons_zero]; exact rfl); (· kernel_rfl); (· kernel_rfl); (· kernel_rfl); (· kernel_rfl); (· kernel_rfl); (· exact fun _ _ _ h => h); (· (refine Or.inl ⟨by rfl, ?_⟩; (intro w hSw; (try dsimp only at hSw); go_simp) <;> with_reducible rfl)); (· assumption); simp only [Act.put, List.setIfInBounds_toArray, List.set_cons_zero, List.set_cons_succ])
  (refine wpAnyM_take (i := 5) (oi := ?_) (v := ?_) ?_ ?_ ?_ ?_ ?_ ?_ ?_ ?_ ?_ ?_; rotate_left 2; (· simp only [List.getElem?_toArray, List.getElem?_cons_succ, List.getElem?_cons_zero]; exact rfl); (· kernel_rfl); (· kernel_rfl); (· kernel_rfl); (· kernel_rfl); (· kernel_rfl); (· exact fun _ _ _ h => h); (· (refine Or.inl ⟨by rfl, ?_⟩; (intro w hSw; (try dsimp only at hSw); go_simp) <;> with_reducible rfl)); (· assumption); simp only [Act.put, List.setIfInBounds_toArray, List.set_cons_zero, List.set_cons_succ])
  (refine wpAnyM_take (i := 6) (oi := ?_) (v := ?_) ?_ ?_ ?_ ?_ ?_ ?_ ?_ ?_ ?_ ?_; rotate_left 2; (· simp only [List.getElem?_toArray, List.getElem?_cons_succ, List.getElem?_cons_zero]; exact rfl); (· kernel_rfl); (· kernel_rfl); (· kernel_rfl); (· kernel_rfl); (· kernel_rfl); (· exact fun _ _ _ h => h); (· (refine Or.inl ⟨by rfl, ?_⟩; (intro w hSw; (try dsimp only at hSw); go_simp) <;> with_reducible rfl)); (· assumption); simp only [Act.put, List.setIfInBounds_toArray, List.set_cons_zero, List.set_cons_succ])
  (refine wpAnyM_take (i := 7) (oi := ?_) (v := ?_) ?_ ?_ ?_ ?_ ?_ ?_ ?_ ?_ ?_ ?_; rotate_left 2; (· simp only [List.getElem?_toArray, List.getElem?_cons_succ, List.getElem?_cons_zero]; exact rfl); (· kernel_rfl); (· kernel_rfl); (· kernel_rfl); (· kernel_rfl); (· kernel_rfl); (· exact fun _ _ _ h => h); (· (refine Or.inl ⟨by rfl, ?_⟩; (intro w hSw; (try dsimp only at hSw); go_simp) <;> with_reducible rfl)); (· assumption); simp only [Act.put, List.setIfInBounds_toArray, List.set_cons_zero, List.set_cons_succ])
  (refine wpAnyM_take (i := 8) (oi := ?_) (v := ?_) ?_ ?_ ?_ ?_ ?_ ?_ ?_ ?_ ?_ ?_; rotate_left 2; (· simp only [List.getElem?_toArray, List.getElem?_cons_succ, List.getElem?_cons_zero]; exact rfl); (· kernel_rfl); (· kernel_rfl); (· kernel_rfl); (· kernel_rfl); (· kernel_rfl); (· exact fun _ _ _ h => h); (· (refine Or.inl ⟨by rfl, ?_⟩; (intro w hSw; (try dsimp only at hSw); go_simp) <;> with_reducible rfl)); (· assumption); simp only [Act.put, List.setIfInBounds_toArray, List.set_cons_zero, List.set_cons_succ])
  refine wpAnyM_ready (rs := [9]) (by kernel_rfl) (by simp) ?_
  refine AllReadyM.cons rfl (fun K hK => ?_) (AllReadyM.nil)
  go_simp
  refine hK.out _ _ ?_ (fun hHeld => ?_)
  · (try dsimp only); go_keep
  clear hK K
  refine wpAnyM_ready (rs := [10]) (by kernel_rfl) (by simp) ?_
  refine AllReadyM.cons rfl (fun K hK => ?_) (AllReadyM.nil)
  rw [if_pos (by rfl)]
  (refine step_app (P := Try.prog) slI64 _ _ rfl (S := G) (S2 := fun z => z = w.heap.size) (n := n) (xs := xs) (m := 1) (news := i64s [m]) rfl rfl ?_ ?_ rfl (i64s_one _) (by omega) (by unfold maxLen; omega) ?_; (· exact (HOwn.out.keep (T := Nope) (((Keep.refl w Nope).drew).alloc _) (fun _ _ f => f))); (· exact rd_one64 w m); rintro a' k' c' w5 happ; obtain ⟨q1, q2⟩ := app_up (wr := w) (((Keep.refl w Nope).drew).alloc _) happ; obtain rfl := happ.num; have HS5 := Lib.hid (HUP.out w5 _ q1 q2); clear happ q1 q2; have hf53 := (HS5.out.blk 0 rfl).frozen 3; have hc53 := (HS5.out.blk 0 rfl).cell 3; have hc51 := (HS5.out.blk 0 rfl).cell 1; simp at hc53 hc51)
  refine hK.out _ _ ?_ (fun hHeld => ?_)
  · (try dsimp only); exact ⟨hc53, hc51⟩
  clear hK K
  refine wpAnyM_ready (rs := [11]) (by kernel_rfl) (by simp) ?_
  refine AllReadyM.free rfl (by kernel_rfl) (fun K hK => ?_) (AllReadyM.nil)
  go_simp
  refine hK.out _ _ ?_
  clear hK K
  refine wpAnyM_ready (rs := [12]) (by kernel_rfl) (by simp) ?_
  refine AllReadyM.free rfl (by kernel_rfl) (fun K hK => ?_) (AllReadyM.nil)
  go_simp
  refine hK.out _ _ ?_
  clear hK K
  refine wpAnyM_ready (rs := [13]) (by kernel_rfl) (by simp) ?_
  refine AllReadyM.free rfl (by kernel_rfl) (fun K hK => ?_) (AllReadyM.nil)
  go_simp
  refine hK.out _ _ ?_
  clear hK K
  refine wpAnyM_done (by kernel_rfl) ?_ _
  go_wp2_with fail
  go_ret2
  refine ⟨rfl, ?_⟩
  have h6 := HS5.out.write 0 rfl 3 (.slice a' (n + 1) c')
  have h7 := h6
  refine St.flagJoin (la := la) (lc := lc) (ra := a') (rc := c') i HIL.out ?_
  unfold flagPs
  rw [show (F.pos ++ [F.all.length]).length = n + 1 by rw [List.length_append, HN.out]; rfl, i64s_app, HX.out, HM.out]
  exact h6
end Go.Proofs.Ytcmbbkaioopkhaa
