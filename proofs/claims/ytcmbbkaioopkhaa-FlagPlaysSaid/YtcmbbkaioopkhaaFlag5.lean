/-
  The package flag: events are noted.
-/
import Derived.Test.YtcmbbkaioopkhaaFlag4
namespace Go.Proofs.Ytcmbbkaioopkhaa
open Go Go.RowKit
set_option linter.unusedVariables false
set_option linter.unusedSimpArgs false

/-- What may be read through all that is done to other claims. -/
def ReadIn (w0 : World) (L : List Asr) (v : Value) (n : Nat) (xs : List Value) : Prop := ∀ (w' : World) (M : List Asr), St w0 w' (M ++ L) → ∃ S2, Rd S2 w' v n xs
theorem ReadIn.old {w0 : World} {L : List Asr} {v : Value} {n : Nat} {xs : List Value} {S : Nat → Prop} (h : Rd S w0 v n xs) (hS : ∀ x, S x → x < w0.heap.size) : ReadIn w0 L v n xs :=
  fun w' M H => ⟨S, h.below H.bel hS⟩
theorem ReadIn.own {w0 : World} {L : List Asr} {v : Value} {n : Nat} {xs : List Value} {e : TypeId} {size : Nat} (j : Nat) (hj : L[j]? = some (slA e size v n xs)) : ReadIn w0 L v n xs :=
  fun w' M H => by
    obtain ⟨G, _, h, _⟩ := H.rd (M.length + j) (e := e) (size := size) (v := v) (n := n) (xs := xs) (by rw [List.getElem?_append_right (by omega), Nat.add_sub_cancel_left]; exact hj)
    exact ⟨G, h⟩
/-- The last claim takes another one's place. -/
theorem St.swapIn {w0 w : World} {l : List Asr} {A : Asr} (h : St w0 w (l ++ [A])) (i : Nat) (hi : i < l.length) : St w0 w (l.set i A) := by
  refine h.pick (fun j => if j = i then l.length else j) (fun j k hj hk e => ?_) (fun j B hj => ?_)
  · simp at hj hk
    by_cases e1 : j = i <;> by_cases e2 : k = i <;> simp [e1, e2] at e <;> omega
  · by_cases e1 : j = i
    · subst e1
      rw [List.getElem?_set_self hi] at hj
      simpa using hj
    · rw [List.getElem?_set_ne (fun e => e1 e.symm)] at hj
      have hjl := (List.getElem?_eq_some_iff.1 hj).1
      simp only [e1, if_false]
      rw [List.getElem?_append_left hjl]
      exact hj
theorem flatEv_drop (l : List EvV) (d : Nat) : (flatEv l).drop (d * 2) = flatEv (l.drop d) := flat_drop EvV.cells 2 (fun _ => rfl) l d
theorem last_app (F : FlagV) (l : List EvV) : (⟨F.bound, F.all ++ l, F.pos⟩ : FlagV).last = (F.last ++ l).drop (F.last.length + l.length - F.bound) := by
  have h1 : F.last ++ l = (F.all ++ l).drop (F.all.length - F.bound) := by
    unfold FlagV.last
    rw [List.drop_append_of_le_length (by omega)]
  have h2 : F.last.length = min F.all.length F.bound := by simp [FlagV.last]; omega
  rw [h2, h1, List.drop_drop]
  simp only [FlagV.last, List.length_append]
  congr 1
  omega
theorem FlagV.last_len (F : FlagV) : F.last.length = min F.all.length F.bound := by simp [FlagV.last]; omega

set_option maxHeartbeats 1000000 in
theorem flag_note_bad {w0 w : World} {L : List Asr} {b : Nat} {F : FlagV} (H : St w0 w L) (v : Value) (l : List EvV) {S : Nat → Prop} (hv : Rd S w v l.length (flatEv l)) (hb : l.any badEv = true) :
    Calls Try.prog 17 #[.pointer (some ⟨b, 0, none⟩), v] w (Ret w (.int .i64 1)) := by
  have HC := Lib.hid (contains_ev v l w S hv)
  rw [hb] at HC
  clear hv H hb
  go_enter Try.func17, Try.ntmps17
  go_wp2_with fail
  refine (HC.out).mono ?_
  rintro e w1 ⟨rfl, hk⟩
  have HK := Lib.hid hk; clear hk
  go_wp2_with fail
  go_ret
  exact ⟨rfl, HK.out⟩


set_option maxRecDepth 2000 in
set_option maxHeartbeats 1000000 in
theorem flag_note {w0 w : World} {L : List Asr} {b : Nat} {F : FlagV} (H : St w0 w L) (i : Nat) (hi : L[i]? = some (flagA b F)) (v : Value) (l : List EvV) (hv : ReadIn w0 (L.set i empA) v l.length (flatEv l)) (hb : l.any badEv = false)
    (hl : l.length ≤ 1000) (hall : F.all.length ≤ 100000) (hB : 1 ≤ F.bound) (hB2 : F.bound ≤ 1000) :
    Calls Try.prog 17 #[.pointer (some ⟨b, 0, none⟩), v] w (fun e w' => e = .returned (.int .i64 0) ∧ St w0 w' (L.set i (flagA b ⟨F.bound, F.all ++ l, F.pos⟩))) := by
  obtain ⟨la, lc, ra, rc, h⟩ := H.flagSplit i hi
  have HIL := Lib.hid (List.getElem?_eq_some_iff.1 hi).1
  have hll := F.last_len
  obtain ⟨S, hr⟩ := hv w _ h
  have HC := Lib.hid (contains_ev v l w S hr)
  rw [hb] at HC
  obtain ⟨va, vc, rfl, g1, g2, g3, g4⟩ := id hr
  clear g1 g2 g3 g4 hr
  have HV := Lib.hid hv; clear hv
  obtain ⟨n, hn⟩ : ∃ n, F.last.length = n := ⟨_, rfl⟩
  obtain ⟨m, hm⟩ : ∃ m, F.all.length = m := ⟨_, rfl⟩
  obtain ⟨nl, hnl⟩ : ∃ nl, l.length = nl := ⟨_, rfl⟩
  unfold flagPs at h
  rw [hn, hm] at h
  rw [hn] at hll
  rw [hm] at hall hll
  rw [hnl] at hl ⊢
  have hn2 : n ≤ 1000 := by omega
  have HN := Lib.hid hn; clear hn
  have HM := Lib.hid hm; clear hm
  have HNL := Lib.hid hnl; clear hnl
  have HLL := Lib.hid hll; clear hll
  have HH := Lib.hid h; clear h H hi hb
  go_enter Try.func17, Try.ntmps17
  go_wp2_with fail
  rw [HNL.out] at HC
  refine (HC.out).mono ?_
  rintro e w1 ⟨rfl, hk⟩
  have H1 := Lib.hid (HH.out.keep hk); clear hk HH
  have c1 := (H1.out.blk 0 rfl).cell 1
  have f1 := (H1.out.blk 0 rfl).frozen 1
  simp at c1
  go_upto_region 4 with (fail)
  have h2 := H1.out.write 0 rfl 1 (.int .i64 ((m : Int) + nl))
  obtain ⟨w2, hw2⟩ : ∃ w2, w2 = w1.setCell ⟨b, 1, none⟩ (.int .i64 ((m : Int) + nl)) := ⟨_, rfl⟩
  rw [← hw2] at h2 ⊢
  have H2 := Lib.hid (show St w0 w2 ([blkA b #[.int .i64 F.bound, .int .i64 ((m : Int) + nl), .slice la n lc, .slice ra F.pos.length rc] 85, slA 34 2 (.slice la n lc) n (flatEv F.last), slA 2 1 (.slice ra F.pos.length rc) F.pos.length (i64s F.pos)] ++ L.set i empA) from h2)
  clear h2 hw2 H1 c1 f1
  have c2 := (H2.out.blk 0 rfl).cell 2
  simp at c2
  obtain ⟨S2, hr2⟩ := HV.out w2 _ H2.out
  obtain ⟨S1, _, hr1, _⟩ := H2.out.rd 1 rfl
  have HR1 := Lib.hid (hr1.mono (T := fun _ => True) (fun _ _ => trivial)); clear hr1
  have HR2 := Lib.hid (hr2.mono (T := fun _ => True) (fun _ _ => trivial)); clear hr2
  go_wp2_with fail
  refine (concat_ev _ [⟨la, lc, F.last⟩, ⟨va, vc, l⟩] _ (fun _ => True) ?_ ?_ ?_).mono ?_
  · have := (Own.lit (S := fun _ => True) w2 35 1 2 #[.slice la n lc, .slice va nl vc] (by decide) rfl trivial).rd
    show Rd _ _ _ 2 [.slice la F.last.length lc, .slice va l.length vc]
    rw [HN.out, HNL.out]
    exact this
  · intro r hr
    simp at hr
    rcases hr with rfl | rfl
    · have := HR1.out
      rw [← HN.out] at this
      exact this.alloc _
    · exact HR2.out.alloc _
  · have := HN.out
    have := HNL.out
    simp [catE]
    omega
  rintro e w3 ⟨a3, n3, c3, rfl, ho3, hk3⟩
  have hl3 := Own.len ho3
  rw [flatEv_len, show catE [⟨la, lc, F.last⟩, ⟨va, vc, l⟩] = F.last ++ l by simp [catE], List.length_append, HN.out, HNL.out] at hl3
  rw [show catE [⟨la, lc, F.last⟩, ⟨va, vc, l⟩] = F.last ++ l by simp [catE]] at ho3
  have hn3 : n3 = n + nl := by omega
  subst hn3
  clear hl3
  have h3 := ((H2.out.alloc (.cells #[.slice la n lc, .slice va nl vc] 35)).add hk3 (A := slA 34 2 (.slice a3 (n + nl) c3) (n + nl) (flatEv (F.last ++ l))) ho3).swapIn 1 (by simp)
  have H3 := Lib.hid (show St w0 w3 ([blkA b #[.int .i64 F.bound, .int .i64 ((m : Int) + nl), .slice la n lc, .slice ra F.pos.length rc] 85, slA 34 2 (.slice a3 (n + nl) c3) (n + nl) (flatEv (F.last ++ l)), slA 2 1 (.slice ra F.pos.length rc) F.pos.length (i64s F.pos)] ++ L.set i empA) from h3)
  clear h3 ho3 hk3 HR1 HR2 H2 c2
  have f3 := (H3.out.blk 0 rfl).frozen 2
  have f30 := (H3.out.blk 0 rfl).cell 2
  simp at f30
  go_upto_region 5 with (fail)
  have h4 := H3.out.write 0 rfl 2 (.slice a3 (n + nl) c3)
  obtain ⟨w4, hw4⟩ : ∃ w4, w4 = w3.setCell ⟨b, 2, none⟩ (.slice a3 (n + nl) c3) := ⟨_, rfl⟩
  rw [← hw4] at h4 ⊢
  have H4 := Lib.hid (show St w0 w4 ([blkA b #[.int .i64 F.bound, .int .i64 ((m : Int) + nl), .slice a3 (n + nl) c3, .slice ra F.pos.length rc] 85, slA 34 2 (.slice a3 (n + nl) c3) (n + nl) (flatEv (F.last ++ l)), slA 2 1 (.slice ra F.pos.length rc) F.pos.length (i64s F.pos)] ++ L.set i empA) from h4)
  clear h4 hw4 H3 f3 f30
  have c42 := (H4.out.blk 0 rfl).cell 2
  have c40 := (H4.out.blk 0 rfl).cell 0
  simp at c42 c40
  obtain ⟨S4, ho4, hr4, _⟩ := H4.out.rd 1 rfl
  have hcap := ho4.cap
  have hcap2 : c3 ≤ 9223372036854775807 := by unfold maxLen at hcap; omega
  have hcap1 := hcap.1
  have HR4 := Lib.hid hr4
  have HXL := Lib.hid ho4.len
  clear ho4 hr4 hcap
  obtain ⟨N, hN⟩ : ∃ N, n + nl = N := ⟨_, rfl⟩
  obtain ⟨B, hB'⟩ : ∃ B, F.bound = B := ⟨_, rfl⟩
  rw [hB'] at hB hB2 c40 
  rw [hN] at c42 hcap1
  have hN2 : N ≤ 2000 := by omega
  have HN' := Lib.hid hN; clear hN
  have HB' := Lib.hid hB'; clear hB'
  clear hl hn2 hall
  have HXN := Lib.hid (show (F.last ++ l).length = N by rw [List.length_append, HN.out, HNL.out, HN'.out])
  rw [HN'.out] at HR4 HXL
  obtain ⟨D, hD⟩ : ∃ D : Int, (N : Int) - B = D := ⟨_, rfl⟩
  have hw : IntKind.i64.wrap ((N : Int) - B) = D := by rw [hD]; exact IntWalk.i64_in _ (by omega)
  obtain ⟨d, hd⟩ : ∃ d, N - B = d := ⟨_, rfl⟩
  have HD := Lib.hid (show (if (0 : Int) > D then 0 else D) = (d : Int) by split <;> omega)
  have hd1 : (d : Int) ≤ N := by omega
  have hd2 : (0 : Int) ≤ d := by omega
  have hd3 : d ≤ N := by omega
  have HDD := Lib.hid hd
  clear hd hD
  refine wp_region_M (r := 18) (S := fun w' => w'.cell? ⟨b, 2, none⟩ = some (.slice a3 N c3) ∧ w'.cell? ⟨b, 0, none⟩ = some (.int .i64 B)) (by kernel_rfl) ?_ (fun hHeld => ?_)
  · (try dsimp only); go_keep
  (refine wpAnyM_take (i := 0) (oi := ?_) (v := ?_) ?_ ?_ ?_ ?_ ?_ ?_ ?_ ?_ ?_ ?_; rotate_left 2; (· simp only [List.getElem?_toArray, List.getElem?_cons_succ, List.getElem?_cons_zero]; exact rfl); (· kernel_rfl); (· kernel_rfl); (· kernel_rfl); (· kernel_rfl); (· kernel_rfl); (· exact fun _ _ _ h => h); (· (refine Or.inl ⟨by rfl, ?_⟩; (intro w hSw; (try dsimp only at hSw); go_simp) <;> with_reducible rfl)); (· assumption); simp only [Act.put, List.setIfInBounds_toArray, List.set_cons_zero, List.set_cons_succ])
  (refine wpAnyM_take (i := 1) (oi := ?_) (v := ?_) ?_ ?_ ?_ ?_ ?_ ?_ ?_ ?_ ?_ ?_; rotate_left 2; (· simp only [List.getElem?_toArray, List.getElem?_cons_succ, List.getElem?_cons_zero]; exact rfl); (· kernel_rfl); (· kernel_rfl); (· kernel_rfl); (· kernel_rfl); (· kernel_rfl); (· exact fun _ _ _ h => h); (· (refine Or.inl ⟨by rfl, ?_⟩; (intro w hSw; (try dsimp only at hSw); go_simp) <;> with_reducible rfl)); (· assumption); simp only [Act.put, List.setIfInBounds_toArray, List.set_cons_zero, List.set_cons_succ])
  (refine wpAnyM_take (i := 2) (oi := ?_) (v := ?_) ?_ ?_ ?_ ?_ ?_ ?_ ?_ ?_ ?_ ?_; rotate_left 2; (· simp only [List.getElem?_toArray, List.getElem?_cons_succ, List.getElem?_cons_zero]; exact rfl); (· kernel_rfl); (· kernel_rfl); (· kernel_rfl); (· kernel_rfl); (· kernel_rfl); (· exact fun _ _ _ h => h); (· (refine Or.inl ⟨by rfl, ?_⟩; (intro w hSw; (try dsimp only at hSw); go_simp) <;> with_reducible rfl)); (· assumption); simp only [Act.put, List.setIfInBounds_toArray, List.set_cons_zero, List.set_cons_succ])
  (refine wpAnyM_take (i := 3) (oi := ?_) (v := ?_) ?_ ?_ ?_ ?_ ?_ ?_ ?_ ?_ ?_ ?_; rotate_left 2; (· simp only [List.getElem?_toArray, List.getElem?_cons_succ, List.getElem?_cons_zero]; exact rfl); (· kernel_rfl); (· kernel_rfl); (· kernel_rfl); (· kernel_rfl); (· kernel_rfl); (· exact fun _ _ _ h => h); (· (refine Or.inl ⟨by rfl, ?_⟩; (intro w hSw; (try dsimp only at hSw); go_simp) <;> with_reducible rfl)); (· assumption); simp only [Act.put, List.setIfInBounds_toArray, List.set_cons_zero, List.set_cons_succ])
  (refine wpAnyM_take (i := 4) (oi := ?_) (v := ?_) ?_ ?_ ?_ ?_ ?_ ?_ ?_ ?_ ?_ ?_; rotate_left 2; (· simp only [List.getElem?_toArray, List.getElem?_cons_succ, List.getElem?_cons_zero]; exact rfl); (· kernel_rfl); (· kernel_rfl); (· kernel_rfl); (· kernel_rfl); (· kernel_rfl); (· exact fun _ _ _ h => h); (· (refine Or.inl ⟨by rfl, ?_⟩; (intro w hSw; (try dsimp only at hSw); go_simp) <;> with_reducible rfl)); (· assumption); simp only [Act.put, List.setIfInBounds_toArray, List.set_cons_zero, List.set_cons_succ])
  (refine wpAnyM_take (i := 5) (oi := ?_) (v := ?_) ?_ ?_ ?_ ?_ ?_ ?_ ?_ ?_ ?_ ?_; rotate_left 2; (· simp only [List.getElem?_toArray, List.getElem?_cons_succ, List.getElem?_cons_zero]; exact rfl); (· kernel_rfl); (· kernel_rfl); (· kernel_rfl); (· kernel_rfl); (· kernel_rfl); (· exact fun _ _ _ h => h); (· (refine Or.inl ⟨by rfl, ?_⟩; (intro w hSw; (try dsimp only at hSw); go_simp) <;> with_reducible rfl)); (· assumption); simp only [Act.put, List.setIfInBounds_toArray, List.set_cons_zero, List.set_cons_succ])
  (refine wpAnyM_take (i := 6) (oi := ?_) (v := ?_) ?_ ?_ ?_ ?_ ?_ ?_ ?_ ?_ ?_ ?_; rotate_left 2; (· simp only [List.getElem?_toArray, List.getElem?_cons_succ, List.getElem?_cons_zero]; exact rfl); (· kernel_rfl); (· kernel_rfl); (· kernel_rfl); (· kernel_rfl); (· kernel_rfl); (· exact fun _ _ _ h => h); (· (refine Or.inl ⟨by rfl, ?_⟩; (intro w hSw; (try dsimp only at hSw); go_simp) <;> with_reducible rfl)); (· assumption); simp only [Act.put, List.setIfInBounds_toArray, List.set_cons_zero, List.set_cons_succ])
  (refine wpAnyM_take (i := 7) (oi := ?_) (v := ?_) ?_ ?_ ?_ ?_ ?_ ?_ ?_ ?_ ?_ ?_; rotate_left 2; (· simp only [List.getElem?_toArray, List.getElem?_cons_succ, List.getElem?_cons_zero]; exact rfl); (· kernel_rfl); (· kernel_rfl); (· kernel_rfl); (· kernel_rfl); (· kernel_rfl); (· exact fun _ _ _ h => h); (· (refine Or.inl ⟨by rfl, ?_⟩; (intro w hSw; (try dsimp only at hSw); go_simp) <;> with_reducible rfl)); (· assumption); simp only [Act.put, List.setIfInBounds_toArray, List.set_cons_zero, List.set_cons_succ])
  (refine wpAnyM_take (i := 8) (oi := ?_) (v := ?_) ?_ ?_ ?_ ?_ ?_ ?_ ?_ ?_ ?_ ?_; rotate_left 2; (· simp only [List.getElem?_toArray, List.getElem?_cons_succ, List.getElem?_cons_zero]; exact rfl); (· kernel_rfl); (· kernel_rfl); (· kernel_rfl); (· kernel_rfl); (· kernel_rfl); (· exact fun _ _ _ h => h); (· (refine Or.inl ⟨by rfl, ?_⟩; (intro w hSw; (try dsimp only at hSw); go_simp) <;> with_reducible rfl)); (· assumption); simp only [Act.put, List.setIfInBounds_toArray, List.set_cons_zero, List.set_cons_succ])
  (refine wpAnyM_take (i := 9) (oi := ?_) (v := ?_) ?_ ?_ ?_ ?_ ?_ ?_ ?_ ?_ ?_ ?_; rotate_left 2; (· simp only [List.getElem?_toArray, List.getElem?_cons_succ, List.getElem?_cons_zero]; exact rfl); (· kernel_rfl); (· kernel_rfl); (· kernel_rfl); (· kernel_rfl); (· kernel_rfl); (· exact fun _ _ _ h => h); (· (refine Or.inl ⟨by rfl, ?_⟩; (intro w hSw; (try dsimp only at hSw); go_simp) <;> with_reducible rfl)); (· assumption); simp only [Act.put, List.setIfInBounds_toArray, List.set_cons_zero, List.set_cons_succ])
  (refine wpAnyM_take (i := 10) (oi := ?_) (v := ?_) ?_ ?_ ?_ ?_ ?_ ?_ ?_ ?_ ?_ ?_; rotate_left 2; (· simp only [List.getElem?_toArray, List.getElem?_cons_succ, List.getElem?_cons_zero]; exact rfl); (· kernel_rfl); (· kernel_rfl); (· kernel_rfl); (· kernel_rfl); (· kernel_rfl); (· exact fun _ _ _ h => h); (· (refine Or.inl ⟨by rfl, ?_⟩; (intro w hSw; (try dsimp only at hSw); go_simp) <;> with_reducible rfl)); (· assumption); simp only [Act.put, List.setIfInBounds_toArray, List.set_cons_zero, List.set_cons_succ])
  (refine wpAnyM_take (i := 11) (oi := ?_) (v := ?_) ?_ ?_ ?_ ?_ ?_ ?_ ?_ ?_ ?_ ?_; rotate_left 2; (· simp only [List.getElem?_toArray, List.getElem?_cons_succ, List.getElem?_cons_zero]; exact rfl); (· kernel_rfl); (· kernel_rfl); (· kernel_rfl); (· kernel_rfl); (· kernel_rfl); (· exact fun _ _ _ h => h); (· (refine Or.inl ⟨by rfl, ?_⟩; (intro w hSw; (try dsimp only at hSw); go_simp) <;> with_reducible rfl)); (· assumption); simp only [Act.put, List.setIfInBounds_toArray, List.set_cons_zero, List.set_cons_succ])
  (refine wpAnyM_take (i := 12) (oi := ?_) (v := ?_) ?_ ?_ ?_ ?_ ?_ ?_ ?_ ?_ ?_ ?_; rotate_left 2; (· simp only [List.getElem?_toArray, List.getElem?_cons_succ, List.getElem?_cons_zero]; exact rfl); (· kernel_rfl); (· kernel_rfl); (· kernel_rfl); (· kernel_rfl); (· kernel_rfl); (· exact fun _ _ _ h => h); (· (refine Or.inl ⟨by rfl, ?_⟩; (intro w hSw; (try dsimp only at hSw); go_simp) <;> with_reducible rfl)); (· assumption); simp only [Act.put, List.setIfInBounds_toArray, List.set_cons_zero, List.set_cons_succ])
  (refine wpAnyM_take (i := 13) (oi := ?_) (v := ?_) ?_ ?_ ?_ ?_ ?_ ?_ ?_ ?_ ?_ ?_; rotate_left 2; (· simp only [List.getElem?_toArray, List.getElem?_cons_succ, List.getElem?_cons_zero]; exact rfl); (· kernel_rfl); (· kernel_rfl); (· kernel_rfl); (· kernel_rfl); (· kernel_rfl); (· exact fun _ _ _ h => h); (· (refine Or.inl ⟨by rfl, ?_⟩; (intro w hSw; (try dsimp only at hSw); go_simp) <;> with_reducible rfl)); (· assumption); simp only [Act.put, List.setIfInBounds_toArray, List.set_cons_zero, List.set_cons_succ])
  (refine wpAnyM_take (i := 14) (oi := ?_) (v := ?_) ?_ ?_ ?_ ?_ ?_ ?_ ?_ ?_ ?_ ?_; rotate_left 2; (· simp only [List.getElem?_toArray, List.getElem?_cons_succ, List.getElem?_cons_zero]; exact rfl); (· kernel_rfl); (· kernel_rfl); (· kernel_rfl); (· kernel_rfl); (· kernel_rfl); (· exact fun _ _ _ h => h); (· (refine Or.inl ⟨by rfl, ?_⟩; (intro w hSw; (try dsimp only at hSw); go_simp) <;> with_reducible rfl)); (· assumption); simp only [Act.put, List.setIfInBounds_toArray, List.set_cons_zero, List.set_cons_succ])
  refine wpAnyM_ready (rs := [15]) (by kernel_rfl) (by simp) ?_
  refine AllReadyM.cons (o := ?_) ?_ ?_ ?_
  rotate_left 1
  · simp only [List.getElem?_toArray, List.getElem?_cons_succ, List.getElem?_cons_zero]; exact rfl
  rotate_left 1
  · exact AllReadyM.nil
  intro K hK
  rw [if_pos (by rfl)]
  (clear hw; refine step_max (r := (d : Int)) _ _ rfl rfl rfl HD.out ?_)
  refine hK.out _ _ ?_ (fun hHeld => ?_)
  · (try dsimp only); exact hHeld
  clear hK K
  (try simp only [List.getElem_toArray, List.getElem_cons_succ, List.getElem_cons_zero, Act.put, List.setIfInBounds_toArray, List.set_cons_zero, List.set_cons_succ])
  refine wpAnyM_ready (rs := [16]) (by kernel_rfl) (by simp) ?_
  refine AllReadyM.cons (o := ?_) ?_ ?_ ?_
  rotate_left 1
  · simp only [List.getElem?_toArray, List.getElem?_cons_succ, List.getElem?_cons_zero]; exact rfl
  rotate_left 1
  · exact AllReadyM.nil
  intro K hK
  rw [if_pos (by rfl)]
  (refine step_slice_l (l := d) slEv _ _ rfl rfl rfl hd3 hcap1 ?_; rintro a5 n5 c5 hcut; have HCut := Lib.hid hcut; have hn5 : n5 ≤ 2000 := (by have := hcut.num; omega); clear hcut)
  refine hK.out _ _ ?_ (fun hHeld => ?_)
  · (try dsimp only); exact hHeld
  clear hK K
  (try simp only [List.getElem_toArray, List.getElem_cons_succ, List.getElem_cons_zero, Act.put, List.setIfInBounds_toArray, List.set_cons_zero, List.set_cons_succ])
  refine wpAnyM_ready (rs := [17]) (by kernel_rfl) (by simp) ?_
  refine AllReadyM.cons (o := ?_) ?_ ?_ ?_
  rotate_left 1
  · simp only [List.getElem?_toArray, List.getElem?_cons_succ, List.getElem?_cons_zero]; exact rfl
  rotate_left 1
  · exact AllReadyM.nil
  intro K hK
  go_simp
  go_wp2_with ((go_at_call 41; refine (clone_ev (.slice a5 n5 c5) n5 (flatEv ((F.last ++ l).drop d)) _ S4 ?cr ?cl (flatEv_one _) ?cb).mono ?_; (case cr => (rw [← flatEv_drop]; exact HCut.out.rd S4 _ _ HXL.out HR4.out)); (case cl => (rw [flatEv_len, List.length_drop]; have := HXN.out; have := HCut.out.num; omega)); (case cb => omega); rintro e w5 ⟨a6, n6, c6, rfl, ho6, hk6⟩; have HO6 := Lib.hid ho6; have HK6 := Lib.hid hk6; clear ho6 hk6; have hs6 := ((H4.out.drew).add HK6.out (A := slA 34 2 (.slice a6 n6 c6) n6 (flatEv ((F.last ++ l).drop d))) HO6.out).swapIn 1 (by simp); have f62 := (hs6.blk 0 (b := b) rfl).frozen 2; have c62 := (hs6.blk 0 (b := b) rfl).cell 2; simp at c62; have HS6 := Lib.hid hs6; clear hs6))
  refine hK.out _ _ ?_ (fun hHeld => ?_)
  · (try dsimp only); exact ⟨HK6.out.cell hHeld.1 (fun f => f), HK6.out.cell hHeld.2 (fun f => f)⟩
  clear hK K
  refine wpAnyM_ready (rs := [18]) (by kernel_rfl) (by simp) ?_
  refine AllReadyM.free (o := ?_) ?_ (by kernel_rfl) ?_ ?_
  rotate_left 1
  · simp only [List.getElem?_toArray, List.getElem?_cons_succ, List.getElem?_cons_zero]; exact rfl
  rotate_left 1
  · exact AllReadyM.nil
  intro K hK
  go_simp
  refine hK.out _ _ ?_
  clear hK K
  refine wpAnyM_ready (rs := [19]) (by kernel_rfl) (by simp) ?_
  refine AllReadyM.free (o := ?_) ?_ (by kernel_rfl) ?_ ?_
  rotate_left 1
  · simp only [List.getElem?_toArray, List.getElem?_cons_succ, List.getElem?_cons_zero]; exact rfl
  rotate_left 1
  · exact AllReadyM.nil
  intro K hK
  go_simp
  refine hK.out _ _ ?_
  clear hK K
  refine wpAnyM_ready (rs := [20]) (by kernel_rfl) (by simp) ?_
  refine AllReadyM.free (o := ?_) ?_ (by kernel_rfl) ?_ ?_
  rotate_left 1
  · simp only [List.getElem?_toArray, List.getElem?_cons_succ, List.getElem?_cons_zero]; exact rfl
  rotate_left 1
  · exact AllReadyM.nil
  intro K hK
  go_simp
  refine hK.out _ _ ?_
  clear hK K
  refine wpAnyM_done (by kernel_rfl) ?_ _
  go_wp2_with fail
  go_ret
  refine ⟨rfl, ?_⟩
  have hlen := Own.len HO6.out
  rw [flatEv_len] at hlen
  have e6 : n6 = ((F.last ++ l).drop d).length := by omega
  subst e6
  have h7 := HS6.out.write 0 (b := b) rfl 2 (.slice a6 ((F.last ++ l).drop d).length c6)
  refine St.flagJoin (la := a6) (lc := c6) (ra := ra) (rc := rc) i HIL.out ?_
  unfold flagPs
  have hlast : (⟨F.bound, F.all ++ l, F.pos⟩ : FlagV).last = (F.last ++ l).drop d := by
    rw [← HDD.out, ← HN'.out, ← HB'.out, ← HN.out, ← HNL.out]
    exact last_app F l
  rw [hlast]
  have hal : ((F.all ++ l).length : Int) = (m : Int) + nl := by rw [List.length_append, HM.out, HNL.out]; omega
  simp only [hal]
  exact h7
end Go.Proofs.Ytcmbbkaioopkhaa
