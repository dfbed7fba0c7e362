/-
  The document's flag: the struct as a claim, a reader joins, a reader reads.
-/
import Derived.Test.YtcmbbkaioopkhaaFlag7
namespace Go.Proofs.Ytcmbbkaioopkhaa
open Go Go.RowKit
set_option linter.unusedVariables false
set_option linter.unusedSimpArgs false

theorem slInt : SlTy Try.prog 25 3 1 8 := SlTy.mk' (.int .i64 0) Try.underlying25 (by kernel_rfl) rfl (by decide)
theorem rd_oneInt (w : World) (n : Nat) : Rd (fun z => z = w.heap.size) (w.alloc (.cells #[.int .i64 (n : Int)] 3)) (.slice (some ⟨w.heap.size, 0, none⟩) 1 1) 1 (i64s [n]) :=
  (Own.lit (S := fun z => z = w.heap.size) w 3 1 1 #[.int .i64 (n : Int)] (by decide) rfl rfl).rd
def rflagPs (b : Nat) (F : FlagV) (p : (Option Addr × Nat) × (Option Addr × Nat)) : List Asr :=
  [blkA b #[.int .i64 F.bound, .slice p.1.1 F.all.length p.1.2, .slice p.2.1 F.pos.length p.2.2] 47,
    slA 34 2 (.slice p.1.1 F.all.length p.1.2) F.all.length (flatEv F.all), slA 3 1 (.slice p.2.1 F.pos.length p.2.2) F.pos.length (i64s F.pos)]
def rflagA (b : Nat) (F : FlagV) : Asr := exA (fun p => starA (rflagPs b F p))

set_option maxHeartbeats 1000000 in
theorem rflag_reader {w0 w : World} {L : List Asr} {b : Nat} {F : FlagV} (H : St w0 w L) (i : Nat) (hi : L[i]? = some (rflagA b F)) (hp : F.pos.length < 100) :
    Calls Try.prog 23 #[.pointer (some ⟨b, 0, none⟩)] w (fun e w' => e = .returned (.tuple #[.int .i64 F.pos.length, .int .i64 0]) ∧ St w0 w' (L.set i (rflagA b ⟨F.bound, F.all, F.pos ++ [F.all.length]⟩))) := by
  obtain ⟨⟨⟨ea, ec⟩, ⟨ra, rc⟩⟩, h⟩ := H.exSplit i hi
  have HIL := Lib.hid (List.getElem?_eq_some_iff.1 hi).1
  obtain ⟨n, hn⟩ : ∃ n, F.pos.length = n := ⟨_, rfl⟩
  obtain ⟨xs, hxs⟩ : ∃ xs, i64s F.pos = xs := ⟨_, rfl⟩
  obtain ⟨m, hm⟩ : ∃ m, F.all.length = m := ⟨_, rfl⟩
  unfold rflagPs at h
  rw [hn, hxs, hm] at h
  rw [hn] at hp
  have c2 := (h.blk 0 rfl).cell 2
  have c1 := (h.blk 0 rfl).cell 1
  simp at c2 c1
  obtain ⟨G, hown, _, hup, _⟩ := h.opens 2 rfl
  have HOwn : Hid (Own G w 3 1 (.slice ra n rc) n xs) := Lib.hid hown
  have HUP := Lib.hid hup
  have HN := Lib.hid hn
  have HX := Lib.hid hxs
  have HM := Lib.hid hm
  rw [hn]
  clear h H hi hown hup hn hxs hm
  go_enter Try.func23, Try.ntmps23
  go_wp2_with fail
  refine wp_region_M (r := 12) (S := fun w' => w'.cell? ⟨b, 2, none⟩ = some (.slice ra n rc) ∧ w'.cell? ⟨b, 1, none⟩ = some (.slice ea m ec)) (by kernel_rfl) ?_ (fun hHeld => ?_)
  · (try dsimp only); go_keep
  (refine wpAnyM_takeP (i := 0) (oi := ?_) (v := ?_) ?_ ?_ ?_ ?_ ?_ ?_ ?_ ?_ ?_; rotate_left 2; (· simp only [List.getElem?_toArray, List.getElem?_cons_succ, List.getElem?_cons_zero]; exact rfl); (· kernel_rfl); (· kernel_rfl); (· kernel_rfl); (· kernel_rfl); (· exact fun _ _ _ h => h); (· (refine Or.inl ⟨by rfl, ?_⟩; (intro w hSw; (try dsimp only at hSw); go_simp) <;> with_reducible rfl)); (· exact fun _ => hHeld); simp only [Act.put, List.setIfInBounds_toArray, List.set_cons_zero, List.set_cons_succ])
  (refine wpAnyM_takeP (i := 1) (oi := ?_) (v := ?_) ?_ ?_ ?_ ?_ ?_ ?_ ?_ ?_ ?_; rotate_left 2; (· simp only [List.getElem?_toArray, List.getElem?_cons_succ, List.getElem?_cons_zero]; exact rfl); (· kernel_rfl); (· kernel_rfl); (· kernel_rfl); (· kernel_rfl); (· exact fun _ _ _ h => h); (· (refine Or.inl ⟨by rfl, ?_⟩; (intro w hSw; (try dsimp only at hSw); go_simp) <;> with_reducible rfl)); (· exact fun _ => hHeld); simp only [Act.put, List.setIfInBounds_toArray, List.set_cons_zero, List.set_cons_succ])
  (refine wpAnyM_takeP (i := 2) (oi := ?_) (v := ?_) ?_ ?_ ?_ ?_ ?_ ?_ ?_ ?_ ?_; rotate_left 2; (· simp only [List.getElem?_toArray, List.getElem?_cons_succ, List.getElem?_cons_zero]; exact rfl); (· kernel_rfl); (· kernel_rfl); (· kernel_rfl); (· kernel_rfl); (· exact fun _ _ _ h => h); (· (refine Or.inl ⟨by rfl, ?_⟩; (intro w hSw; (try dsimp only at hSw); go_simp) <;> with_reducible rfl)); (· exact fun _ => hHeld); simp only [Act.put, List.setIfInBounds_toArray, List.set_cons_zero, List.set_cons_succ])
  (refine wpAnyM_takeP (i := 3) (oi := ?_) (v := ?_) ?_ ?_ ?_ ?_ ?_ ?_ ?_ ?_ ?_; rotate_left 2; (· simp only [List.getElem?_toArray, List.getElem?_cons_succ, List.getElem?_cons_zero]; exact rfl); (· kernel_rfl); (· kernel_rfl); (· kernel_rfl); (· kernel_rfl); (· exact fun _ _ _ h => h); (· (refine Or.inl ⟨by rfl, ?_⟩; (intro w hSw; (try dsimp only at hSw); go_simp) <;> with_reducible rfl)); (· exact fun _ => hHeld); simp only [Act.put, List.setIfInBounds_toArray, List.set_cons_zero, List.set_cons_succ])
  (refine wpAnyM_take (i := 4) (oi := ?_) (v := ?_) ?_ ?_ ?_ ?_ ?_ ?_ ?_ ?_ ?_ ?_; rotate_left 2; (· simp only [List.getElem?_toArray, List.getElem?_cons_succ, List.getElem?_cons_zero]; exact rfl); (· kernel_rfl); (· kernel_rfl); (· kernel_rfl); (· kernel_rfl); (· kernel_rfl); (· exact fun _ _ _ h => h); (· (refine Or.inl ⟨by rfl, ?_⟩; (intro w hSw; (try dsimp only at hSw); go_simp) <;> with_reducible rfl)); (· assumption); simp only [Act.put, List.setIfInBounds_toArray, List.set_cons_zero, List.set_cons_succ])
  (refine wpAnyM_takeP (i := 5) (oi := ?_) (v := ?_) ?_ ?_ ?_ ?_ ?_ ?_ ?_ ?_ ?_; rotate_left 2; (· simp only [List.getElem?_toArray, List.getElem?_cons_succ, List.getElem?_cons_zero]; exact rfl); (· kernel_rfl); (· kernel_rfl); (· kernel_rfl); (· kernel_rfl); (· exact fun _ _ _ h => h); (· (refine Or.inl ⟨by rfl, ?_⟩; (intro w hSw; (try dsimp only at hSw); go_simp) <;> with_reducible rfl)); (· exact fun _ => hHeld); simp only [Act.put, List.setIfInBounds_toArray, List.set_cons_zero, List.set_cons_succ])
  (refine wpAnyM_takeP (i := 6) (oi := ?_) (v := ?_) ?_ ?_ ?_ ?_ ?_ ?_ ?_ ?_ ?_; rotate_left 2; (· simp only [List.getElem?_toArray, List.getElem?_cons_succ, List.getElem?_cons_zero]; exact rfl); (· kernel_rfl); (· kernel_rfl); (· kernel_rfl); (· kernel_rfl); (· exact fun _ _ _ h => h); (· (refine Or.inl ⟨by rfl, ?_⟩; (intro w hSw; (try dsimp only at hSw); go_simp) <;> with_reducible rfl)); (· exact fun _ => hHeld); simp only [Act.put, List.setIfInBounds_toArray, List.set_cons_zero, List.set_cons_succ])
  (refine wpAnyM_takeP (i := 7) (oi := ?_) (v := ?_) ?_ ?_ ?_ ?_ ?_ ?_ ?_ ?_ ?_; rotate_left 2; (· simp only [List.getElem?_toArray, List.getElem?_cons_succ, List.getElem?_cons_zero]; exact rfl); (· kernel_rfl); (· kernel_rfl); (· kernel_rfl); (· kernel_rfl); (· exact fun _ _ _ h => h); (· (refine Or.inl ⟨by rfl, ?_⟩; (intro w hSw; (try dsimp only at hSw); go_simp) <;> with_reducible rfl)); (· exact fun _ => hHeld); simp only [Act.put, List.setIfInBounds_toArray, List.set_cons_zero, List.set_cons_succ])
  (refine wpAnyM_take (i := 8) (oi := ?_) (v := ?_) ?_ ?_ ?_ ?_ ?_ ?_ ?_ ?_ ?_ ?_; rotate_left 2; (· simp only [List.getElem?_toArray, List.getElem?_cons_succ, List.getElem?_cons_zero]; exact rfl); (· kernel_rfl); (· kernel_rfl); (· kernel_rfl); (· kernel_rfl); (· kernel_rfl); (· exact fun _ _ _ h => h); (· (refine Or.inl ⟨by rfl, ?_⟩; (intro w hSw; (try dsimp only at hSw); go_simp) <;> with_reducible rfl)); (· assumption); simp only [Act.put, List.setIfInBounds_toArray, List.set_cons_zero, List.set_cons_succ])
  (refine wpAnyM_takeP (i := 9) (oi := ?_) (v := ?_) ?_ ?_ ?_ ?_ ?_ ?_ ?_ ?_ ?_; rotate_left 2; (· simp only [List.getElem?_toArray, List.getElem?_cons_succ, List.getElem?_cons_zero]; exact rfl); (· kernel_rfl); (· kernel_rfl); (· kernel_rfl); (· kernel_rfl); (· exact fun _ _ _ h => h); (· (refine Or.inl ⟨by rfl, ?_⟩; (intro w hSw; (try dsimp only at hSw); go_simp) <;> with_reducible rfl)); (· exact fun _ => hHeld); simp only [Act.put, List.setIfInBounds_toArray, List.set_cons_zero, List.set_cons_succ])
  refine wpAnyM_ready (rs := [10]) (by kernel_rfl) (by simp) ?_
  refine AllReadyM.cons (o := ?_) ?_ ?_ ?_
  rotate_left 1
  · simp only [List.getElem?_toArray, List.getElem?_cons_succ, List.getElem?_cons_zero]; exact rfl
  rotate_left 1
  · exact AllReadyM.nil
  intro K hK
  go_simp
  refine hK.out _ _ ?_ (fun hHeld => ?_)
  · (try dsimp only); go_keep
  clear hK K
  refine wpAnyM_ready (rs := [11]) (by kernel_rfl) (by simp) ?_
  refine AllReadyM.cons (o := ?_) ?_ ?_ ?_
  rotate_left 1
  · simp only [List.getElem?_toArray, List.getElem?_cons_succ, List.getElem?_cons_zero]; exact rfl
  rotate_left 1
  · exact AllReadyM.nil
  intro K hK
  rw [if_pos (by rfl)]
  (refine step_app (P := Try.prog) slInt _ _ rfl (S := G) (S2 := fun z => z = w.heap.size) (n := n) (xs := xs) (m := 1) (news := i64s [m]) rfl rfl ?_ ?_ rfl (i64s_one _) (by omega) (by unfold maxLen; omega) ?_; (· exact (HOwn.out.keep (T := Nope) (((Keep.refl w Nope).drew).alloc _) (fun _ _ f => f))); (· exact rd_oneInt w m); rintro a' k' c' w5 happ; obtain ⟨q1, q2⟩ := app_up (wr := w) (((Keep.refl w Nope).drew).alloc _) happ; obtain rfl := happ.num; have HS5 := Lib.hid (HUP.out w5 _ q1 q2); clear happ q1 q2; have hf52 := (HS5.out.blk 0 rfl).frozen 2; have hc52 := (HS5.out.blk 0 rfl).cell 2; have hc51 := (HS5.out.blk 0 rfl).cell 1; simp at hc52 hc51)
  refine hK.out _ _ ?_ (fun hHeld => ?_)
  · (try dsimp only); exact ⟨hc52, hc51⟩
  clear hK K
  (try simp only [List.getElem_toArray, List.getElem_cons_succ, List.getElem_cons_zero, Act.put, List.setIfInBounds_toArray, List.set_cons_zero, List.set_cons_succ])
  refine wpAnyM_ready (rs := [12]) (by kernel_rfl) (by simp) ?_
  refine AllReadyM.free (o := ?_) ?_ (by kernel_rfl) ?_ ?_
  rotate_left 1
  · simp only [List.getElem?_toArray, List.getElem?_cons_succ, List.getElem?_cons_zero]; exact rfl
  rotate_left 1
  · exact AllReadyM.nil
  intro K hK
  go_simp
  refine hK.out _ _ ?_
  clear hK K
  (refine wpAnyM_takeP (i := 13) (oi := ?_) (v := ?_) ?_ ?_ ?_ ?_ ?_ ?_ ?_ ?_ ?_; rotate_left 2; (· simp only [List.getElem?_toArray, List.getElem?_cons_succ, List.getElem?_cons_zero]; exact rfl); (· kernel_rfl); (· kernel_rfl); (· kernel_rfl); (· kernel_rfl); (· exact fun _ _ _ h => h); (· (refine Or.inl ⟨by rfl, ?_⟩; (intro w hSw; (try dsimp only at hSw); go_simp) <;> with_reducible rfl)); (· exact fun h => Bool.noConfusion (show true = false from h)); simp only [Act.put, List.setIfInBounds_toArray, List.set_cons_zero, List.set_cons_succ])
  refine wpAnyM_ready (rs := [14]) (by kernel_rfl) (by simp) ?_
  refine AllReadyM.free (o := ?_) ?_ (by kernel_rfl) ?_ ?_
  rotate_left 1
  · simp only [List.getElem?_toArray, List.getElem?_cons_succ, List.getElem?_cons_zero]; exact rfl
  rotate_left 1
  · exact AllReadyM.nil
  intro K hK
  go_simp
  refine hK.out _ _ ?_
  clear hK K
  refine wpAnyM_done (by kernel_rfl) ?_ _
  go_wp2_with fail
  go_ret2
  refine ⟨rfl, ?_⟩
  have h6 := HS5.out.write 0 rfl 2 (.slice a' (n + 1) c')
  refine St.exJoin (rflagPs b ⟨F.bound, F.all, F.pos ++ [F.all.length]⟩) ((ea, ec), (a', c')) i HIL.out ?_
  unfold rflagPs
  rw [show (F.pos ++ [F.all.length]).length = n + 1 by rw [List.length_append, HN.out]; rfl, i64s_app, HX.out, HM.out]
  exact h6

set_option maxHeartbeats 400000 in
theorem rflag_reader_many {w0 w : World} {L : List Asr} {b : Nat} {F : FlagV} (H : St w0 w L) (i : Nat) (hi : L[i]? = some (rflagA b F)) (hp : F.pos.length = 100) :
    Calls Try.prog 23 #[.pointer (some ⟨b, 0, none⟩)] w (fun e w' => e = .returned (.tuple #[.int .i64 0, .int .i64 2]) ∧ w = w') := by
  obtain ⟨⟨⟨ea, ec⟩, ⟨ra, rc⟩⟩, h⟩ := H.exSplit i hi
  unfold rflagPs at h
  rw [hp] at h
  have c3 := (h.blk 0 rfl).cell 2
  simp at c3
  clear h H hi hp
  go_enter Try.func23, Try.ntmps23
  go_wp2_with fail
  go_ret2
  exact ⟨rfl, rfl⟩

set_option maxHeartbeats 1000000 in
theorem rflag_read_no {w0 w : World} {L : List Asr} {b : Nat} {F : FlagV} (H : St w0 w L) (i : Nat) (hi : L[i]? = some (rflagA b F)) (hp : F.pos.length ≤ 100) (k : Int) (hk : k < 0 ∨ F.pos.length ≤ k) :
    Calls Try.prog 24 #[.pointer (some ⟨b, 0, none⟩), .int .i64 k] w (Ret w (.tuple #[.slice none 0 0, .bool false, .int .i64 8])) := by
  obtain ⟨⟨⟨ea, ec⟩, ⟨ra, rc⟩⟩, h⟩ := H.exSplit i hi
  obtain ⟨n, hn⟩ : ∃ n, F.pos.length = n := ⟨_, rfl⟩
  unfold rflagPs at h
  rw [hn] at h
  rw [hn] at hp hk
  have c3 := (h.blk 0 rfl).cell 2
  simp at c3
  by_cases h0 : k < 0
  · clear h H hi hn hk
    go_enter Try.func24, Try.ntmps24
    go_wp2_with fail
    go_ret3
    exact ⟨rfl, Keep.refl _ _⟩
  · have h1 : (n : Int) ≤ k := by omega
    have hd0 : decide (k < 0) = false := decide_eq_false h0
    clear h H hi hn hk h0
    go_enter Try.func24, Try.ntmps24
    go_wp2_with fail
    go_ret3
    exact ⟨rfl, Keep.refl _ _⟩

/-- What the document's reader is told. -/
def RetRead (w0 : World) (L : List Asr) (i b k p d : Nat) (F : FlagV) (e : Ending) (w' : World) : Prop :=
  (F.bound < d ∧ e = .returned (.tuple #[.slice none 0 0, .bool true, .int .i64 0]) ∧ St w0 w' (L.set i (rflagA b (F.seen k)))) ∨
  (d ≤ F.bound ∧ ∃ a n c, e = .returned (.tuple #[.slice a n c, .bool false, .int .i64 0]) ∧ n = d ∧ St w0 w' (L.set i (rflagA b (F.seen k)) ++ [slA 34 2 (.slice a n c) n (flatEv (F.all.drop p))]))

set_option maxRecDepth 2000 in
set_option maxHeartbeats 1000000 in
theorem rflag_read {w0 w : World} {L : List Asr} {b : Nat} {F : FlagV} (H : St w0 w L) (i : Nat) (hi : L[i]? = some (rflagA b F)) (hp : F.pos.length ≤ 100) (hall : F.all.length ≤ 1000000) (hB2 : F.bound ≤ 1000) (k p d : Nat) (hk : F.pos[k]? = some p) (hd : p + d = F.all.length) :
    Calls Try.prog 24 #[.pointer (some ⟨b, 0, none⟩), .int .i64 k] w (RetRead w0 L i b k p d F) := by
  obtain ⟨⟨⟨ea, ec⟩, ⟨ra, rc⟩⟩, h⟩ := H.exSplit i hi
  have HIL := Lib.hid (List.getElem?_eq_some_iff.1 hi).1
  have hkl := (List.getElem?_eq_some_iff.1 hk).1
  have hx := i64s_get _ _ _ hk
  obtain ⟨n, hn⟩ : ∃ n, F.pos.length = n := ⟨_, rfl⟩
  obtain ⟨m, hm⟩ : ∃ m, F.all.length = m := ⟨_, rfl⟩
  obtain ⟨B, hB⟩ : ∃ B, F.bound = B := ⟨_, rfl⟩
  unfold rflagPs at h
  rw [hn, hm, hB] at h
  rw [hn] at hp hkl
  rw [hm] at hall hd
  rw [hB] at hB2
  have HN := Lib.hid hn
  have HM := Lib.hid hm
  have HB := Lib.hid hB
  have HSN := Lib.hid h
  have c2 := (h.blk 0 rfl).cell 2
  have c1 := (h.blk 0 rfl).cell 1
  simp at c2 c1
  obtain ⟨g, rfl, hgl, hgf, hgc, hgs⟩ := h.store 2 rfl (by omega)
  have ck : w.cell? ⟨g, k, none⟩ = some (.int .i64 (p : Int)) := by rw [hgc k (by omega)]; exact hx
  have b1 : (k : Int) < n := by omega
  have b2 : (0 : Int) ≤ k := by omega
  have hcap : n ≤ rc ∧ rc ≤ maxLen := by obtain ⟨_, ho, _⟩ := (h.rd 2 rfl); exact ho.cap
  unfold maxLen at hcap
  obtain ⟨S1, ho1, hr1, hS1⟩ := h.rd 1 rfl
  have hec := ho1.cap.1
  obtain ⟨a5, n5, c5, hcut, hrun⟩ := slice_l_any slEv ea m ec p .i64 (by omega) hec
  have en5 : n5 = d := by have := hcut.num; omega
  subst en5
  have HR5 := Lib.hid (hcut.rd S1 w (flatEv F.all) (by rw [flatEv_len, hm]) hr1)
  rw [flatEv_drop] at HR5
  have HL5 := Lib.hid (show (flatEv (F.all.drop p)).length = n5 * 2 by rw [flatEv_len, List.length_drop, hm]; omega)
  have HSZ := Lib.hid (show b < w.heap.size from (h.blk 0 rfl).lt)
  have HD := Lib.hid hd
  have b3 : n5 ≤ 1000000 := by omega
  have HGL := Lib.hid hgl
  clear h H hi hk hx hn hm hB hgc hgs hgf ho1 hr1 hcut hd hgl
  go_enter Try.func24, Try.ntmps24
  go_wp2_with fail
  refine wp_region_M (r := 14) (S := fun w' => w'.cell? ⟨b, 2, none⟩ = some (.slice (some ⟨g, 0, none⟩) n rc) ∧ w'.cell? ⟨b, 1, none⟩ = some (.slice ea m ec) ∧ w'.cell? ⟨g, k, none⟩ = some (.int .i64 p)) (by kernel_rfl) ?_ (fun hHeld => ?_)
  · (try dsimp only); go_keep
  (refine wpAnyM_takeP (i := 1) (oi := ?_) (v := ?_) ?_ ?_ ?_ ?_ ?_ ?_ ?_ ?_ ?_; rotate_left 2; (· simp only [List.getElem?_toArray, List.getElem?_cons_succ, List.getElem?_cons_zero]; exact rfl); (· kernel_rfl); (· kernel_rfl); (· kernel_rfl); (· kernel_rfl); (· exact fun _ _ _ h => h); (· (refine Or.inl ⟨by rfl, ?_⟩; (intro w hSw; (try dsimp only at hSw); go_simp) <;> with_reducible rfl)); (· exact fun _ => hHeld); simp only [Act.put, List.setIfInBounds_toArray, List.set_cons_zero, List.set_cons_succ])
  (refine wpAnyM_takeP (i := 2) (oi := ?_) (v := ?_) ?_ ?_ ?_ ?_ ?_ ?_ ?_ ?_ ?_; rotate_left 2; (· simp only [List.getElem?_toArray, List.getElem?_cons_succ, List.getElem?_cons_zero]; exact rfl); (· kernel_rfl); (· kernel_rfl); (· kernel_rfl); (· kernel_rfl); (· exact fun _ _ _ h => h); (· (refine Or.inl ⟨by rfl, ?_⟩; (intro w hSw; (try dsimp only at hSw); go_simp) <;> with_reducible rfl)); (· exact fun _ => hHeld); simp only [Act.put, List.setIfInBounds_toArray, List.set_cons_zero, List.set_cons_succ])
  (refine wpAnyM_takeP (i := 3) (oi := ?_) (v := ?_) ?_ ?_ ?_ ?_ ?_ ?_ ?_ ?_ ?_; rotate_left 2; (· simp only [List.getElem?_toArray, List.getElem?_cons_succ, List.getElem?_cons_zero]; exact rfl); (· kernel_rfl); (· kernel_rfl); (· kernel_rfl); (· kernel_rfl); (· exact fun _ _ _ h => h); (· (refine Or.inl ⟨by rfl, ?_⟩; (intro w hSw; (try dsimp only at hSw); go_simp) <;> with_reducible rfl)); (· exact fun _ => hHeld); simp only [Act.put, List.setIfInBounds_toArray, List.set_cons_zero, List.set_cons_succ])
  (refine wpAnyM_take (i := 4) (oi := ?_) (v := ?_) ?_ ?_ ?_ ?_ ?_ ?_ ?_ ?_ ?_ ?_; rotate_left 2; (· simp only [List.getElem?_toArray, List.getElem?_cons_succ, List.getElem?_cons_zero]; exact rfl); (· kernel_rfl); (· kernel_rfl); (· kernel_rfl); (· kernel_rfl); (· kernel_rfl); (· exact fun _ _ _ h => h); (· (refine Or.inl ⟨by rfl, ?_⟩; (intro w hSw; (try dsimp only at hSw); go_simp) <;> with_reducible rfl)); (· assumption); simp only [Act.put, List.setIfInBounds_toArray, List.set_cons_zero, List.set_cons_succ])
  (refine wpAnyM_takeP (i := 5) (oi := ?_) (v := ?_) ?_ ?_ ?_ ?_ ?_ ?_ ?_ ?_ ?_; rotate_left 2; (· simp only [List.getElem?_toArray, List.getElem?_cons_succ, List.getElem?_cons_zero]; exact rfl); (· kernel_rfl); (· kernel_rfl); (· kernel_rfl); (· kernel_rfl); (· exact fun _ _ _ h => h); (· (refine Or.inl ⟨by rfl, ?_⟩; (intro w hSw; (try dsimp only at hSw); go_simp) <;> with_reducible rfl)); (· exact fun _ => hHeld); simp only [Act.put, List.setIfInBounds_toArray, List.set_cons_zero, List.set_cons_succ])
  (refine wpAnyM_takeP (i := 6) (oi := ?_) (v := ?_) ?_ ?_ ?_ ?_ ?_ ?_ ?_ ?_ ?_; rotate_left 2; (· simp only [List.getElem?_toArray, List.getElem?_cons_succ, List.getElem?_cons_zero]; exact rfl); (· kernel_rfl); (· kernel_rfl); (· kernel_rfl); (· kernel_rfl); (· exact fun _ _ _ h => h); (· (refine Or.inl ⟨by rfl, ?_⟩; (intro w hSw; (try dsimp only at hSw); go_simp) <;> with_reducible rfl)); (· exact fun _ => hHeld); simp only [Act.put, List.setIfInBounds_toArray, List.set_cons_zero, List.set_cons_succ])
  (refine wpAnyM_takeP (i := 7) (oi := ?_) (v := ?_) ?_ ?_ ?_ ?_ ?_ ?_ ?_ ?_ ?_; rotate_left 2; (· simp only [List.getElem?_toArray, List.getElem?_cons_succ, List.getElem?_cons_zero]; exact rfl); (· kernel_rfl); (· kernel_rfl); (· kernel_rfl); (· kernel_rfl); (· exact fun _ _ _ h => h); (· (refine Or.inl ⟨by rfl, ?_⟩; (intro w hSw; (try dsimp only at hSw); go_simp) <;> with_reducible rfl)); (· exact fun _ => hHeld); simp only [Act.put, List.setIfInBounds_toArray, List.set_cons_zero, List.set_cons_succ])
  (refine wpAnyM_take (i := 8) (oi := ?_) (v := ?_) ?_ ?_ ?_ ?_ ?_ ?_ ?_ ?_ ?_ ?_; rotate_left 2; (· simp only [List.getElem?_toArray, List.getElem?_cons_succ, List.getElem?_cons_zero]; exact rfl); (· kernel_rfl); (· kernel_rfl); (· kernel_rfl); (· kernel_rfl); (· kernel_rfl); (· exact fun _ _ _ h => h); (· (refine Or.inl ⟨by rfl, ?_⟩; (intro w hSw; (try dsimp only at hSw); go_simp) <;> with_reducible rfl)); (· assumption); simp only [Act.put, List.setIfInBounds_toArray, List.set_cons_zero, List.set_cons_succ])
  (refine wpAnyM_takeP (i := 9) (oi := ?_) (v := ?_) ?_ ?_ ?_ ?_ ?_ ?_ ?_ ?_ ?_; rotate_left 2; (· simp only [List.getElem?_toArray, List.getElem?_cons_succ, List.getElem?_cons_zero]; exact rfl); (· kernel_rfl); (· kernel_rfl); (· kernel_rfl); (· kernel_rfl); (· exact fun _ _ _ h => h); (· (refine Or.inl ⟨by rfl, ?_⟩; (intro w hSw; (try dsimp only at hSw); go_simp) <;> with_reducible rfl)); (· exact fun _ => hHeld); simp only [Act.put, List.setIfInBounds_toArray, List.set_cons_zero, List.set_cons_succ])
  (refine wpAnyM_takeP (i := 10) (oi := ?_) (v := ?_) ?_ ?_ ?_ ?_ ?_ ?_ ?_ ?_ ?_; rotate_left 2; (· simp only [List.getElem?_toArray, List.getElem?_cons_succ, List.getElem?_cons_zero]; exact rfl); (· kernel_rfl); (· kernel_rfl); (· kernel_rfl); (· kernel_rfl); (· exact fun _ _ _ h => h); (· (refine Or.inl ⟨by rfl, ?_⟩; (intro w hSw; (try dsimp only at hSw); go_simp) <;> with_reducible rfl)); (· exact fun _ => hHeld); simp only [Act.put, List.setIfInBounds_toArray, List.set_cons_zero, List.set_cons_succ])
  (refine wpAnyM_take (i := 11) (oi := ?_) (v := ?_) ?_ ?_ ?_ ?_ ?_ ?_ ?_ ?_ ?_ ?_; rotate_left 2; (· simp only [List.getElem?_toArray, List.getElem?_cons_succ, List.getElem?_cons_zero]; exact rfl); (· kernel_rfl); (· kernel_rfl); (· kernel_rfl); (· kernel_rfl); (· kernel_rfl); (· exact fun _ _ _ h => h); (· (refine Or.inl ⟨by rfl, ?_⟩; (intro w hSw; (try dsimp only at hSw); go_simp) <;> with_reducible rfl)); (· assumption); simp only [Act.put, List.setIfInBounds_toArray, List.set_cons_zero, List.set_cons_succ])
  (refine wpAnyM_takeP (i := 12) (oi := ?_) (v := ?_) ?_ ?_ ?_ ?_ ?_ ?_ ?_ ?_ ?_; rotate_left 2; (· simp only [List.getElem?_toArray, List.getElem?_cons_succ, List.getElem?_cons_zero]; exact rfl); (· kernel_rfl); (· kernel_rfl); (· kernel_rfl); (· kernel_rfl); (· exact fun _ _ _ h => h); (· (refine Or.inl ⟨by rfl, ?_⟩; (intro w hSw; (try dsimp only at hSw); go_simp) <;> with_reducible rfl)); (· exact fun _ => hHeld); simp only [Act.put, List.setIfInBounds_toArray, List.set_cons_zero, List.set_cons_succ])
  refine wpAnyM_ready (rs := [0]) (by kernel_rfl) (by simp) ?_
  refine AllReadyM.cons (o := ?_) ?_ ?_ ?_
  rotate_left 1
  · simp only [List.getElem?_toArray, List.getElem?_cons_succ, List.getElem?_cons_zero]; exact rfl
  rotate_left 1
  · exact AllReadyM.nil
  intro K hK
  go_simp
  refine hK.out _ _ ?_ (fun hHeld => ?_)
  · (try dsimp only); go_keep
  clear hK K
  refine wpAnyM_ready (rs := [13]) (by kernel_rfl) (by simp) ?_
  refine AllReadyM.cons (o := ?_) ?_ ?_ ?_
  rotate_left 1
  · simp only [List.getElem?_toArray, List.getElem?_cons_succ, List.getElem?_cons_zero]; exact rfl
  rotate_left 1
  · exact AllReadyM.nil
  intro K hK
  rw [if_pos (by rfl)]
  (refine step_app (P := Try.prog) slEv _ _ rfl (S := fun z => z = w.heap.size) (S2 := S1) (n := 0) (xs := []) (m := n5) (news := flatEv (F.all.drop p)) rfl rfl ?_ ?_ ?_ (flatEv_one _) (by omega) (by unfold maxLen; omega) ?_; (· exact Own.lit _ _ _ 0 #[] (Nat.zero_le _) rfl rfl); (· exact HR5.out.alloc _); (· exact HL5.out); rintro a7 n7 c7 w2 happ; have HApp := Lib.hid happ; clear happ)
  refine hK.out _ _ ?_ (fun hHeld => ?_)
  · (try dsimp only); exact ⟨HApp.out.keep.cell hHeld.1 (fun f => Nat.ne_of_lt HSZ.out f), HApp.out.keep.cell hHeld.2.1 (fun f => Nat.ne_of_lt HSZ.out f), HApp.out.keep.cell hHeld.2.2 (fun f => Nat.ne_of_lt HGL.out f)⟩
  clear hK K
  (try simp only [List.getElem_toArray, List.getElem_cons_succ, List.getElem_cons_zero, Act.put, List.setIfInBounds_toArray, List.set_cons_zero, List.set_cons_succ])
  refine wpAnyM_ready (rs := [14]) (by kernel_rfl) (by simp) ?_
  refine AllReadyM.free (o := ?_) ?_ (by kernel_rfl) ?_ ?_
  rotate_left 1
  · simp only [List.getElem?_toArray, List.getElem?_cons_succ, List.getElem?_cons_zero]; exact rfl
  rotate_left 1
  · exact AllReadyM.nil
  intro K hK
  go_simp
  refine hK.out _ _ ?_
  clear hK K
  refine wpAnyM_done (by kernel_rfl) ?_ _
  obtain ⟨e7, hk2, ho2⟩ : n7 = n5 ∧ Keep w w2 Nope ∧ Own (New w w2) w2 34 2 (.slice a7 n7 c7) n7 (flatEv (F.all.drop p)) := by
    have h := HApp.out
    have hsz := h.keep.size
    simp at hsz
    refine ⟨by have := h.num; omega, (((Keep.refl w Nope).alloc _).drew).trans h.keep (fun i hi => .inr (Nat.le_of_eq hi.symm)), ?_⟩
    have h2 := h.own
    rw [List.nil_append] at h2
    exact h2.mono (fun i hi => hi.elim (fun e => by subst e; exact ⟨Nat.le_refl _, hsz⟩) (fun e => ⟨by have := e.1; simp at this; omega, e.2⟩))
  subst e7
  have H2 := Lib.hid (St.add HSN.out hk2 (A := slA 34 2 (.slice a7 n7 c7) n7 (flatEv (F.all.drop p))) ho2)
  clear hk2 ho2 HApp HSN hrun HR5 HGL HSZ c1 c2 ck
  have c2 := (H2.out.blk 0 (b := b) rfl).cell 2
  have c1 := (H2.out.blk 0 (b := b) rfl).cell 1
  have c0 := (H2.out.blk 0 (b := b) rfl).cell 0
  simp at c2 c1 c0
  obtain ⟨g', e, hgl, hgf, hgc, hgs⟩ := H2.out.store 2 (n := n) (a := some ⟨g, 0, none⟩) (c := rc) rfl (by omega)
  injection e with e
  injection e with e
  subst e
  have fk := hgf k
  have ck := hgc k (by omega)
  have HXK := Lib.hid (show ∃ u, (i64s F.pos)[k]? = some u from ⟨_, List.getElem?_eq_getElem (by rw [i64s_len, HN.out]; exact hkl)⟩)
  obtain ⟨u, hu⟩ := HXK.out
  rw [hu] at ck
  have HGS := Lib.hid hgs
  clear hgf hgc hgs hu HXK
  go_wp2_with fail
  refine wp_region_M (r := 10) (S := fun w' => w'.cell? ⟨b, 2, none⟩ = some (.slice (some ⟨g, 0, none⟩) n rc) ∧ w'.cell? ⟨b, 1, none⟩ = some (.slice ea m ec)) (by kernel_rfl) ?_ (fun hHeld => ?_)
  · (try dsimp only); go_keep
  (refine wpAnyM_takeP (i := 0) (oi := ?_) (v := ?_) ?_ ?_ ?_ ?_ ?_ ?_ ?_ ?_ ?_; rotate_left 2; (· simp only [List.getElem?_toArray, List.getElem?_cons_succ, List.getElem?_cons_zero]; exact rfl); (· kernel_rfl); (· kernel_rfl); (· kernel_rfl); (· kernel_rfl); (· exact fun _ _ _ h => h); (· (refine Or.inl ⟨by rfl, ?_⟩; (intro w hSw; (try dsimp only at hSw); go_simp) <;> with_reducible rfl)); (· exact fun _ => hHeld); simp only [Act.put, List.setIfInBounds_toArray, List.set_cons_zero, List.set_cons_succ])
  (refine wpAnyM_takeP (i := 1) (oi := ?_) (v := ?_) ?_ ?_ ?_ ?_ ?_ ?_ ?_ ?_ ?_; rotate_left 2; (· simp only [List.getElem?_toArray, List.getElem?_cons_succ, List.getElem?_cons_zero]; exact rfl); (· kernel_rfl); (· kernel_rfl); (· kernel_rfl); (· kernel_rfl); (· exact fun _ _ _ h => h); (· (refine Or.inl ⟨by rfl, ?_⟩; (intro w hSw; (try dsimp only at hSw); go_simp) <;> with_reducible rfl)); (· exact fun _ => hHeld); simp only [Act.put, List.setIfInBounds_toArray, List.set_cons_zero, List.set_cons_succ])
  (refine wpAnyM_takeP (i := 2) (oi := ?_) (v := ?_) ?_ ?_ ?_ ?_ ?_ ?_ ?_ ?_ ?_; rotate_left 2; (· simp only [List.getElem?_toArray, List.getElem?_cons_succ, List.getElem?_cons_zero]; exact rfl); (· kernel_rfl); (· kernel_rfl); (· kernel_rfl); (· kernel_rfl); (· exact fun _ _ _ h => h); (· (refine Or.inl ⟨by rfl, ?_⟩; (intro w hSw; (try dsimp only at hSw); go_simp) <;> with_reducible rfl)); (· exact fun _ => hHeld); simp only [Act.put, List.setIfInBounds_toArray, List.set_cons_zero, List.set_cons_succ])
  (refine wpAnyM_take (i := 3) (oi := ?_) (v := ?_) ?_ ?_ ?_ ?_ ?_ ?_ ?_ ?_ ?_ ?_; rotate_left 2; (· simp only [List.getElem?_toArray, List.getElem?_cons_succ, List.getElem?_cons_zero]; exact rfl); (· kernel_rfl); (· kernel_rfl); (· kernel_rfl); (· kernel_rfl); (· kernel_rfl); (· exact fun _ _ _ h => h); (· (refine Or.inl ⟨by rfl, ?_⟩; (intro w hSw; (try dsimp only at hSw); go_simp) <;> with_reducible rfl)); (· assumption); simp only [Act.put, List.setIfInBounds_toArray, List.set_cons_zero, List.set_cons_succ])
  (refine wpAnyM_takeP (i := 4) (oi := ?_) (v := ?_) ?_ ?_ ?_ ?_ ?_ ?_ ?_ ?_ ?_; rotate_left 2; (· simp only [List.getElem?_toArray, List.getElem?_cons_succ, List.getElem?_cons_zero]; exact rfl); (· kernel_rfl); (· kernel_rfl); (· kernel_rfl); (· kernel_rfl); (· exact fun _ _ _ h => h); (· (refine Or.inl ⟨by rfl, ?_⟩; (intro w hSw; (try dsimp only at hSw); go_simp) <;> with_reducible rfl)); (· exact fun _ => hHeld); simp only [Act.put, List.setIfInBounds_toArray, List.set_cons_zero, List.set_cons_succ])
  (refine wpAnyM_takeP (i := 5) (oi := ?_) (v := ?_) ?_ ?_ ?_ ?_ ?_ ?_ ?_ ?_ ?_; rotate_left 2; (· simp only [List.getElem?_toArray, List.getElem?_cons_succ, List.getElem?_cons_zero]; exact rfl); (· kernel_rfl); (· kernel_rfl); (· kernel_rfl); (· kernel_rfl); (· exact fun _ _ _ h => h); (· (refine Or.inl ⟨by rfl, ?_⟩; (intro w hSw; (try dsimp only at hSw); go_simp) <;> with_reducible rfl)); (· exact fun _ => hHeld); simp only [Act.put, List.setIfInBounds_toArray, List.set_cons_zero, List.set_cons_succ])
  (refine wpAnyM_takeP (i := 6) (oi := ?_) (v := ?_) ?_ ?_ ?_ ?_ ?_ ?_ ?_ ?_ ?_; rotate_left 2; (· simp only [List.getElem?_toArray, List.getElem?_cons_succ, List.getElem?_cons_zero]; exact rfl); (· kernel_rfl); (· kernel_rfl); (· kernel_rfl); (· kernel_rfl); (· exact fun _ _ _ h => h); (· (refine Or.inl ⟨by rfl, ?_⟩; (intro w hSw; (try dsimp only at hSw); go_simp) <;> with_reducible rfl)); (· exact fun _ => hHeld); simp only [Act.put, List.setIfInBounds_toArray, List.set_cons_zero, List.set_cons_succ])
  (refine wpAnyM_takeP (i := 7) (oi := ?_) (v := ?_) ?_ ?_ ?_ ?_ ?_ ?_ ?_ ?_ ?_; rotate_left 2; (· simp only [List.getElem?_toArray, List.getElem?_cons_succ, List.getElem?_cons_zero]; exact rfl); (· kernel_rfl); (· kernel_rfl); (· kernel_rfl); (· kernel_rfl); (· exact fun _ _ _ h => h); (· (refine Or.inl ⟨by rfl, ?_⟩; (intro w hSw; (try dsimp only at hSw); go_simp) <;> with_reducible rfl)); (· exact fun _ => hHeld); simp only [Act.put, List.setIfInBounds_toArray, List.set_cons_zero, List.set_cons_succ])
  (refine wpAnyM_take (i := 8) (oi := ?_) (v := ?_) ?_ ?_ ?_ ?_ ?_ ?_ ?_ ?_ ?_ ?_; rotate_left 2; (· simp only [List.getElem?_toArray, List.getElem?_cons_succ, List.getElem?_cons_zero]; exact rfl); (· kernel_rfl); (· kernel_rfl); (· kernel_rfl); (· kernel_rfl); (· kernel_rfl); (· exact fun _ _ _ h => h); (· (refine Or.inl ⟨by rfl, ?_⟩; (intro w hSw; (try dsimp only at hSw); go_simp) <;> with_reducible rfl)); (· assumption); simp only [Act.put, List.setIfInBounds_toArray, List.set_cons_zero, List.set_cons_succ])
  (refine wpAnyM_takeP (i := 9) (oi := ?_) (v := ?_) ?_ ?_ ?_ ?_ ?_ ?_ ?_ ?_ ?_; rotate_left 2; (· simp only [List.getElem?_toArray, List.getElem?_cons_succ, List.getElem?_cons_zero]; exact rfl); (· kernel_rfl); (· kernel_rfl); (· kernel_rfl); (· kernel_rfl); (· exact fun _ _ _ h => h); (· (refine Or.inl ⟨by rfl, ?_⟩; (intro w hSw; (try dsimp only at hSw); go_simp) <;> with_reducible rfl)); (· exact fun _ => hHeld); simp only [Act.put, List.setIfInBounds_toArray, List.set_cons_zero, List.set_cons_succ])
  refine wpAnyM_ready (rs := [10]) (by kernel_rfl) (by simp) ?_
  refine AllReadyM.free (o := ?_) ?_ (by kernel_rfl) ?_ ?_
  rotate_left 1
  · simp only [List.getElem?_toArray, List.getElem?_cons_succ, List.getElem?_cons_zero]; exact rfl
  rotate_left 1
  · exact AllReadyM.nil
  intro K hK
  go_simp
  refine hK.out _ _ ?_
  clear hK K
  refine wpAnyM_ready (rs := [11]) (by kernel_rfl) (by simp) ?_
  refine AllReadyM.free (o := ?_) ?_ (by kernel_rfl) ?_ ?_
  rotate_left 1
  · simp only [List.getElem?_toArray, List.getElem?_cons_succ, List.getElem?_cons_zero]; exact rfl
  rotate_left 1
  · exact AllReadyM.nil
  intro K hK
  go_simp
  refine hK.out _ _ ?_
  clear hK K
  refine wpAnyM_done (by kernel_rfl) ?_ _
  have h3 := (HGS.out k (.int .i64 (m : Int))).drew
  obtain ⟨w3, hw3⟩ : ∃ w3, w3 = (w2.setCell ⟨g, k, none⟩ (.int .i64 (m : Int))).drew := ⟨_, rfl⟩
  rw [← hw3] at h3 ⊢
  rw [i64s_set] at h3
  have H3 := Lib.hid (show St w0 w3 (([blkA b #[.int .i64 B, .slice ea m ec, .slice (some ⟨g, 0, none⟩) n rc] 47, slA 34 2 (.slice ea m ec) m (flatEv F.all), slA 3 1 (.slice (some ⟨g, 0, none⟩) n rc) n (i64s (F.pos.set k m))] ++ L.set i empA) ++ [slA 34 2 (.slice a7 n7 c7) n7 (flatEv (F.all.drop p))]) from h3)
  clear h3 hw3 H2 HGS c2 c1 c0 ck fk hgl hHeld
  have c30 := (H3.out.blk 0 (b := b) rfl).cell 0
  simp at c30
  have HJ : Hid (St w0 w3 (L.set i (rflagA b (F.seen k)) ++ [slA 34 2 (.slice a7 n7 c7) n7 (flatEv (F.all.drop p))])) := by
    refine Lib.hid (St.exJoin1 (rflagPs b (F.seen k)) ((ea, ec), (some ⟨g, 0, none⟩, rc)) i HIL.out ?_)
    unfold rflagPs FlagV.seen
    have e1 : (F.pos.set k m).length = n := by rw [List.length_set, HN.out]
    simp only [HM.out, HB.out, e1]
    exact H3.out
  by_cases hbd : B < n7
  · have hbd' : (B : Int) < n7 := by omega
    go_wp2_with fail
    go_ret3
    refine .inl ⟨by rw [HB.out]; exact hbd, rfl, ?_⟩
    have h := HJ.out.take L.length
    rw [List.take_left' (by simp)] at h
    exact h
  · have hbd' : ¬ (B : Int) < n7 := by omega
    go_wp2_with fail
    go_ret3
    exact .inr ⟨by rw [HB.out]; omega, a7, n7, c7, rfl, rfl, HJ.out⟩
end Go.Proofs.Ytcmbbkaioopkhaa
