/-
  The package hash: a new index goes into its slot.
-/
import Derived.Test.YtcmbbkaioopkhaaHash1
namespace Go.Proofs.Ytcmbbkaioopkhaa
open Go Go.RowKit
set_option linter.unusedVariables false
set_option linter.unusedSimpArgs false

theorem box_get (ps L : List Asr) (A : Asr) (i : Nat) (hi : i < L.length) : (ps ++ (L ++ [A]).set i empA)[ps.length + L.length]? = some A := by
  rw [List.set_append_left _ _ hi, List.getElem?_append_right (by omega), Nat.add_sub_cancel_left, List.getElem?_append_right (by simp)]
  simp
theorem St.store1 {w0 w : World} {L : List Asr} {i g e' n c : Nat} {e : TypeId} {xs : List Value} (h : St w0 w L) (hi : L[i]? = some (slA e e' (.slice (some ⟨g, 0, none⟩) n c) n xs)) (hn : 0 < n) (j : Nat) (u : Value) :
    St w0 (w.setCell ⟨g, j, none⟩ u) (L.set i (slA e e' (.slice (some ⟨g, 0, none⟩) n c) n (xs.set j u))) := by
  obtain ⟨g', he, _, _, _, hs⟩ := h.store i hi hn
  injection he with he
  injection he with he
  subst he
  exact hs j u
/-- Five cells are written, one behind the other. -/
theorem St.store5 {w0 w : World} {L : List Asr} {i g e' n c : Nat} {e : TypeId} {xs : List Value} (h : St w0 w L) (hi : L[i]? = some (slA e e' (.slice (some ⟨g, 0, none⟩) n c) n xs)) (hn : 0 < n) (j : Nat) (u0 u1 u2 u3 u4 : Value) :
    St w0 (((((w.setCell ⟨g, j, none⟩ u0).setCell ⟨g, j + 1, none⟩ u1).setCell ⟨g, j + 2, none⟩ u2).setCell ⟨g, j + 3, none⟩ u3).setCell ⟨g, j + 4, none⟩ u4) (L.set i (slA e e' (.slice (some ⟨g, 0, none⟩) n c) n (((((xs.set j u0).set (j + 1) u1).set (j + 2) u2).set (j + 3) u3).set (j + 4) u4))) := by
  have hil := (List.getElem?_eq_some_iff.1 hi).1
  have k : ∀ (L' : List Asr) (A B : Asr), L'.length = L.length → (L'.set i A).set i B = L'.set i B := fun L' A B _ => List.set_set ..
  have h1 := h.store1 hi hn j u0
  have h2 := h1.store1 (List.getElem?_set_self hil) hn (j + 1) u1
  rw [List.set_set] at h2
  have h3 := h2.store1 (List.getElem?_set_self hil) hn (j + 2) u2
  rw [List.set_set] at h3
  have h4 := h3.store1 (List.getElem?_set_self hil) hn (j + 3) u3
  rw [List.set_set] at h4
  have h5 := h4.store1 (List.getElem?_set_self hil) hn (j + 4) u4
  rw [List.set_set] at h5
  exact h5
theorem flatSl_set5 (l : List SlotV) (q : Nat) (hq : q < l.length) (k x vk va vb : Int) :
    (((((flatSl l).set (q * 5) (.int .i64 k)).set (q * 5 + 1) (.int .i64 x)).set (q * 5 + 2) (.int .i64 vk)).set (q * 5 + 3) (.int .i64 va)).set (q * 5 + 4) (.int .i64 vb) = flatSl (l.set q ⟨k, x, vk, va, vb⟩) := by
  have f := fun (y : SlotV) (j : Nat) (u : Value) (hj : j < 5) (l : List SlotV) (z : SlotV) (h : l[q]? = some z) (he : y.cells = z.cells.set j u) => flat_set SlotV.cells 5 (fun _ => rfl) y j u hj l q z h he
  obtain ⟨s, hs⟩ : ∃ s, l[q]? = some s := ⟨_, List.getElem?_eq_getElem hq⟩
  unfold flatSl
  have h1 := f ⟨k, s.idx, s.vk, s.va, s.vb⟩ 0 (.int .i64 k) (by decide) l s hs rfl
  have h2 := f ⟨k, x, s.vk, s.va, s.vb⟩ 1 (.int .i64 x) (by decide) (l.set q ⟨k, s.idx, s.vk, s.va, s.vb⟩) _ (List.getElem?_set_self hq) rfl
  have h3 := f ⟨k, x, vk, s.va, s.vb⟩ 2 (.int .i64 vk) (by decide) (l.set q ⟨k, x, s.vk, s.va, s.vb⟩) _ (List.getElem?_set_self hq) rfl
  have h4 := f ⟨k, x, vk, va, s.vb⟩ 3 (.int .i64 va) (by decide) (l.set q ⟨k, x, vk, s.va, s.vb⟩) _ (List.getElem?_set_self hq) rfl
  have h5 := f ⟨k, x, vk, va, vb⟩ 4 (.int .i64 vb) (by decide) (l.set q ⟨k, x, vk, va, s.vb⟩) _ (List.getElem?_set_self hq) rfl
  rw [List.set_set] at h2 h3 h4 h5
  simp only [Nat.add_zero] at h1
  rw [h1, h2, h3, h4, h5]

set_option maxRecDepth 2000 in
set_option maxHeartbeats 2000000 in
theorem hash_put1 {w0 w : World} {L : List Asr} {b : Nat} {l : List SlotV} (H : St w0 w L) (i : Nat) (hi : L[i]? = some (hashA b l)) (hT : Tab hmO l) (hP : Pow l.length) (x : Int) (h0 : 0 ≤ x) (h1 : x < 65536) (vk va vb : Int) (q : Nat) (hq : q < l.length) (hf : findS hmO l x = (-1, (q : Int))) (hk : (sl l q).kind ≠ 1) (kq : Bool) (hkq : ((sl l q).kind == 2) = kq) (hc1 : cntK 1 l ≤ 1000000) (hc2 : cntK 2 l ≤ 1000000) :
    Calls Try.prog 49 #[.pointer (some ⟨b, 0, none⟩), .int .i64 x, .agg #[.int .i64 vk, .int .i64 va, .int .i64 vb]] w (fun e w' => e = .returned (.tuple #[]) ∧ St w0 w' (L.set i (hashA b (l.set q ⟨1, x, vk, va, vb⟩)))) := by
  have HB := H.box #[.int .i64 vk, .int .i64 va, .int .i64 vb] 67
  have hi2 : (L ++ [blkA w.heap.size #[.int .i64 vk, .int .i64 va, .int .i64 vb] 67])[i]? = some (hashA b l) := by rw [List.getElem?_append_left (List.getElem?_eq_some_iff.1 hi).1]; exact hi
  have hC := hash_find HB i hi2 hT hP x h0 h1
  rw [hf] at hC
  have HC := Lib.hid hC; clear hC hf
  obtain ⟨⟨a, c⟩, h⟩ := HB.exSplit i hi2
  have HIL := Lib.hid (List.getElem?_eq_some_iff.1 hi).1
  obtain ⟨n, hn⟩ : ∃ n, l.length = n := ⟨_, rfl⟩
  obtain ⟨cf, hcf⟩ : ∃ cf, cntK 1 l = cf := ⟨_, rfl⟩
  obtain ⟨ct, hct⟩ : ∃ ct, cntK 2 l = ct := ⟨_, rfl⟩
  unfold hashPs at h
  rw [hn, hcf, hct] at h
  have k1 := cntK_set 1 ⟨1, x, vk, va, vb⟩ l q hq
  have k2 := cntK_set 2 ⟨1, x, vk, va, vb⟩ l q hq
  rw [if_neg hk, hcf] at k1
  rw [hct] at k2
  simp only [if_true, if_neg (show ¬ (1 : Int) = 2 by decide)] at k1 k2
  have HK1 := Lib.hid (show cntK 1 (l.set q ⟨1, x, vk, va, vb⟩) = cf + 1 by omega)
  have HK2 := Lib.hid (show cntK 2 (l.set q ⟨1, x, vk, va, vb⟩) + (if kq = true then 1 else 0) = ct by
    rw [← hkq]
    by_cases c : (sl l q).kind = 2
    · rw [if_pos c] at k2; simp [c]; omega
    · rw [if_neg c] at k2; simp [c]; omega)
  clear k1 k2
  rw [hn] at hq
  rw [hcf] at hc1
  rw [hct] at hc2
  have HH := Lib.hid h
  have HN := Lib.hid hn
  have HCF := Lib.hid hcf
  have HCT := Lib.hid hct
  obtain ⟨bv, hbv⟩ : ∃ bv, w.heap.size = bv := ⟨_, rfl⟩
  clear H HB hi hi2 hT hP h hn hcf hct
  go_enter Try.func49, Try.ntmps49
  go_wp2_with fail
  refine (HC.out).mono ?_
  rintro e w1 ⟨rfl, hk1⟩
  have H1 := Lib.hid (HH.out.keep hk1); clear hk1 HH HC
  obtain ⟨S, hown, hrd, _⟩ := H1.out.rd 1 rfl
  have c2 := (H1.out.blk 0 rfl).cell 2
  have c0 := (H1.out.blk 0 rfl).cell 0
  have c1 := (H1.out.blk 0 rfl).cell 1
  have f0 := (H1.out.blk 0 rfl).frozen 0
  have f1 := (H1.out.blk 0 rfl).frozen 1
  simp at c2 c0 c1
  obtain ⟨g, rfl, hgl, hgf, hgc, hgs⟩ := H1.out.store 1 rfl (by omega)
  have HGS := Lib.hid hgs
  have HGC := Lib.hid hgc
  have HGF := Lib.hid hgf
  have hcap := hown.cap
  unfold maxLen at hcap
  have hx0 := HGC.out (q * 5 + 0) (by omega)
  have hqi : (q : Int) < n := by omega
  rw [show (flatSl l)[q * 5 + 0]? = some (.int .i64 (sl l q).kind) from flat_get SlotV.cells 5 (fun _ => rfl) l q 0 _ (sl_get (by rw [HN.out]; exact hq)) (by decide)] at hx0
  simp only [Nat.add_zero] at hx0
  clear hgs hgc hgf hown hrd
  have HMID : Hid (∃ ct2 : Int, ((kq = false ∧ ct2 = ct) ∨ (kq = true ∧ ct2 = (ct : Int) - 1))) := Lib.hid (by cases kq; exact ⟨ct, .inl ⟨rfl, rfl⟩⟩; exact ⟨(ct : Int) - 1, .inr ⟨rfl, rfl⟩⟩)
  obtain ⟨ct2, hct2⟩ := HMID.out
  have hgo : ∀ w2, St w0 w2 ([blkA b #[.int .i64 ((cf : Int) + 1), .int .i64 ct2, .slice (some ⟨g, 0, none⟩) n c] 92, slA 79 5 (.slice (some ⟨g, 0, none⟩) n c) n (flatSl l)] ++ (L ++ [blkA bv #[.int .i64 vk, .int .i64 va, .int .i64 vb] 67]).set i empA) → True := fun _ _ => trivial
  clear hgo HMID
  cases kq
  all_goals
    first
    | have hkd : ((sl l q).kind == 2) = false := hkq
    | have hkd : ((sl l q).kind == 2) = true := hkq
    simp only [if_true, if_false, Bool.false_eq_true] at HK2
    go_wp2_with fail
    first
    | (have hh := (H1.out.write 0 rfl 1 (.int .i64 ((ct : Int) - 1))).write 0 rfl 0 (.int .i64 ((cf : Int) + 1))
       have he : ct2 = (ct : Int) - 1 := by rcases hct2 with ⟨e, _⟩ | ⟨_, e⟩; cases e; exact e
       have h2 := hh
       obtain ⟨w2, hw2⟩ : ∃ w2, w2 = (w1.setCell ⟨b, 1, none⟩ (.int .i64 ((ct : Int) - 1))).setCell ⟨b, 0, none⟩ (.int .i64 ((cf : Int) + 1)) := ⟨_, rfl⟩
       rw [← hw2] at h2 ⊢)
    | (have hh := H1.out.write 0 rfl 0 (.int .i64 ((cf : Int) + 1))
       have he : ct2 = (ct : Int) := by rcases hct2 with ⟨_, e⟩ | ⟨e, _⟩; exact e; cases e
       have h2 := hh
       obtain ⟨w2, hw2⟩ : ∃ w2, w2 = w1.setCell ⟨b, 0, none⟩ (.int .i64 ((cf : Int) + 1)) := ⟨_, rfl⟩
       rw [← hw2] at h2 ⊢)
    have H2 := Lib.hid (show St w0 w2 ([blkA b #[.int .i64 ((cf : Int) + 1), .int .i64 ct2, .slice (some ⟨g, 0, none⟩) n c] 92, slA 79 5 (.slice (some ⟨g, 0, none⟩) n c) n (flatSl l)] ++ (L ++ [blkA bv #[.int .i64 vk, .int .i64 va, .int .i64 vb] 67]).set i empA) by rw [he]; subst hbv; exact h2)
    clear hh h2 hw2 H1 c0 c1 c2 f0 f1 hgl HGS HGC HGF hx0
    have c22 := (H2.out.blk 0 (b := b) rfl).cell 2
    have hbb := H2.out.blk _ (b := bv) (box_get _ L _ i HIL.out)
    have cv0 := hbb.cell 0
    have cv1 := hbb.cell 1
    have cv2 := hbb.cell 2
    simp at c22 cv0 cv1 cv2
    obtain ⟨g', he', hgl, hgf, hgc, _⟩ := H2.out.store 1 (a := some ⟨g, 0, none⟩) (c := c) (n := n) rfl (by omega)
    injection he' with he'
    injection he' with he'
    subst he'
    have y0 := hgc (q * 5 + 0) (by omega)
    have y1 := hgc (q * 5 + 1) (by omega)
    have y2 := hgc (q * 5 + 2) (by omega)
    have y3 := hgc (q * 5 + 3) (by omega)
    have y4 := hgc (q * 5 + 4) (by omega)
    have fg := fun j (hj : j < 5) => flat_get SlotV.cells 5 (fun _ => rfl) l q j _ (sl_get (l := l) (p := q) (by rw [HN.out]; exact hq)) hj
    rw [show (flatSl l)[q * 5 + 0]? = _ from fg 0 (by decide)] at y0
    rw [show (flatSl l)[q * 5 + 1]? = _ from fg 1 (by decide)] at y1
    rw [show (flatSl l)[q * 5 + 2]? = _ from fg 2 (by decide)] at y2
    rw [show (flatSl l)[q * 5 + 3]? = _ from fg 3 (by decide)] at y3
    rw [show (flatSl l)[q * 5 + 4]? = _ from fg 4 (by decide)] at y4
    simp [SlotV.cells] at y0 y1 y2 y3 y4
    have z0 := hgf (q * 5)
    have z1 := hgf (q * 5 + 1)
    have z2 := hgf (q * 5 + 2)
    have z3 := hgf (q * 5 + 3)
    have z4 := hgf (q * 5 + 4)
    clear hgf hgc fg hbb
    subst hbv
    refine wp_region_M (r := 8) (S := fun w' => w'.cell? ⟨b, 2, none⟩ = some (.slice (some ⟨g, 0, none⟩) n c) ∧ w'.cell? ⟨w.heap.size, 0, none⟩ = some (.int .i64 vk) ∧ w'.cell? ⟨w.heap.size, 1, none⟩ = some (.int .i64 va) ∧ w'.cell? ⟨w.heap.size, 2, none⟩ = some (.int .i64 vb)) (by kernel_rfl) ?_ (fun hHeld => ?_)
    · (try dsimp only); go_keep
    (refine wpAnyM_takeP (i := 0) (oi := ?_) (v := ?_) ?_ ?_ ?_ ?_ ?_ ?_ ?_ ?_ ?_; rotate_left 2; (· simp only [List.getElem?_toArray, List.getElem?_cons_succ, List.getElem?_cons_zero]; exact rfl); (· kernel_rfl); (· kernel_rfl); (· kernel_rfl); (· kernel_rfl); (· first | exact fun _ _ _ h => h | exact fun _ _ _ h => (HPan.out _ _ _ h).elim); (· (refine Or.inl ⟨by rfl, ?_⟩; (intro w hSw; (try dsimp only at hSw); go_simp) <;> with_reducible rfl)); (· exact fun _ => hHeld); simp only [Act.put, List.setIfInBounds_toArray, List.set_cons_zero, List.set_cons_succ])
    (refine wpAnyM_takeP (i := 1) (oi := ?_) (v := ?_) ?_ ?_ ?_ ?_ ?_ ?_ ?_ ?_ ?_; rotate_left 2; (· simp only [List.getElem?_toArray, List.getElem?_cons_succ, List.getElem?_cons_zero]; exact rfl); (· kernel_rfl); (· kernel_rfl); (· kernel_rfl); (· kernel_rfl); (· first | exact fun _ _ _ h => h | exact fun _ _ _ h => (HPan.out _ _ _ h).elim); (· (refine Or.inl ⟨by rfl, ?_⟩; (intro w hSw; (try dsimp only at hSw); go_simp) <;> with_reducible rfl)); (· exact fun _ => hHeld); simp only [Act.put, List.setIfInBounds_toArray, List.set_cons_zero, List.set_cons_succ])
    (refine wpAnyM_takeP (i := 2) (oi := ?_) (v := ?_) ?_ ?_ ?_ ?_ ?_ ?_ ?_ ?_ ?_; rotate_left 2; (· simp only [List.getElem?_toArray, List.getElem?_cons_succ, List.getElem?_cons_zero]; exact rfl); (· kernel_rfl); (· kernel_rfl); (· kernel_rfl); (· kernel_rfl); (· first | exact fun _ _ _ h => h | exact fun _ _ _ h => (HPan.out _ _ _ h).elim); (· (refine Or.inl ⟨by rfl, ?_⟩; (intro w hSw; (try dsimp only at hSw); go_simp) <;> with_reducible rfl)); (· exact fun _ => hHeld); simp only [Act.put, List.setIfInBounds_toArray, List.set_cons_zero, List.set_cons_succ])
    (refine wpAnyM_take (i := 3) (oi := ?_) (v := ?_) ?_ ?_ ?_ ?_ ?_ ?_ ?_ ?_ ?_ ?_; rotate_left 2; (· simp only [List.getElem?_toArray, List.getElem?_cons_succ, List.getElem?_cons_zero]; exact rfl); (· kernel_rfl); (· kernel_rfl); (· kernel_rfl); (· kernel_rfl); (· kernel_rfl); (· first | exact fun _ _ _ h => h | exact fun _ _ _ h => (HPan.out _ _ _ h).elim); (· (refine Or.inl ⟨by rfl, ?_⟩; (intro w hSw; (try dsimp only at hSw); go_simp) <;> with_reducible rfl)); (· assumption); simp only [Act.put, List.setIfInBounds_toArray, List.set_cons_zero, List.set_cons_succ])
    (refine wpAnyM_takeP (i := 4) (oi := ?_) (v := ?_) ?_ ?_ ?_ ?_ ?_ ?_ ?_ ?_ ?_; rotate_left 2; (· simp only [List.getElem?_toArray, List.getElem?_cons_succ, List.getElem?_cons_zero]; exact rfl); (· kernel_rfl); (· kernel_rfl); (· kernel_rfl); (· kernel_rfl); (· first | exact fun _ _ _ h => h | exact fun _ _ _ h => (HPan.out _ _ _ h).elim); (· (refine Or.inl ⟨by rfl, ?_⟩; (intro w hSw; (try dsimp only at hSw); go_simp) <;> with_reducible rfl)); (· exact fun _ => hHeld); simp only [Act.put, List.setIfInBounds_toArray, List.set_cons_zero, List.set_cons_succ])
    (refine wpAnyM_takeP (i := 5) (oi := ?_) (v := ?_) ?_ ?_ ?_ ?_ ?_ ?_ ?_ ?_ ?_; rotate_left 2; (· simp only [List.getElem?_toArray, List.getElem?_cons_succ, List.getElem?_cons_zero]; exact rfl); (· kernel_rfl); (· kernel_rfl); (· kernel_rfl); (· kernel_rfl); (· first | exact fun _ _ _ h => h | exact fun _ _ _ h => (HPan.out _ _ _ h).elim); (· (refine Or.inl ⟨by rfl, ?_⟩; (intro w hSw; (try dsimp only at hSw); go_simp) <;> with_reducible rfl)); (· exact fun _ => hHeld); simp only [Act.put, List.setIfInBounds_toArray, List.set_cons_zero, List.set_cons_succ])
    (refine wpAnyM_take (i := 6) (oi := ?_) (v := ?_) ?_ ?_ ?_ ?_ ?_ ?_ ?_ ?_ ?_ ?_; rotate_left 2; (· simp only [List.getElem?_toArray, List.getElem?_cons_succ, List.getElem?_cons_zero]; exact rfl); (· kernel_rfl); (· kernel_rfl); (· kernel_rfl); (· kernel_rfl); (· kernel_rfl); (· first | exact fun _ _ _ h => h | exact fun _ _ _ h => (HPan.out _ _ _ h).elim); (· (refine Or.inl ⟨by rfl, ?_⟩; (intro w hSw; (try dsimp only at hSw); go_simp) <;> with_reducible rfl)); (· assumption); simp only [Act.put, List.setIfInBounds_toArray, List.set_cons_zero, List.set_cons_succ])
    (refine wpAnyM_takeP (i := 7) (oi := ?_) (v := ?_) ?_ ?_ ?_ ?_ ?_ ?_ ?_ ?_ ?_; rotate_left 2; (· simp only [List.getElem?_toArray, List.getElem?_cons_succ, List.getElem?_cons_zero]; exact rfl); (· kernel_rfl); (· kernel_rfl); (· kernel_rfl); (· kernel_rfl); (· first | exact fun _ _ _ h => h | exact fun _ _ _ h => (HPan.out _ _ _ h).elim); (· (refine Or.inl ⟨by rfl, ?_⟩; (intro w hSw; (try dsimp only at hSw); go_simp) <;> with_reducible rfl)); (· exact fun _ => hHeld); simp only [Act.put, List.setIfInBounds_toArray, List.set_cons_zero, List.set_cons_succ])
    refine wpAnyM_ready (rs := [8]) (by kernel_rfl) (by simp) ?_
    refine AllReadyM.free (o := ?_) ?_ (by kernel_rfl) ?_ ?_
    rotate_left 1
    · simp only [List.getElem?_toArray, List.getElem?_cons_succ, List.getElem?_cons_zero]; exact rfl
    rotate_left 1
    · exact AllReadyM.nil
    intro K hK
    go_simp
    refine hK.out _ _ ?_
    clear hK K
    refine wpAnyM_ready (rs := [9]) (by kernel_rfl) (by simp) ?_
    refine AllReadyM.free (o := ?_) ?_ (by kernel_rfl) ?_ ?_
    rotate_left 1
    · simp only [List.getElem?_toArray, List.getElem?_cons_succ, List.getElem?_cons_zero]; exact rfl
    rotate_left 1
    · exact AllReadyM.nil
    intro K hK
    go_simp
    refine hK.out _ _ ?_
    clear hK K
    refine wpAnyM_done (by kernel_rfl) ?_ _
    go_wp2_with fail
    go_end0
    refine ⟨rfl, ?_⟩
    have h3 := (H2.out.store5 (i := 1) rfl (by omega) (q * 5) (.int .i64 1) (.int .i64 x) (.int .i64 vk) (.int .i64 va) (.int .i64 vb)).drew
    rw [flatSl_set5 l q (by rw [HN.out]; exact hq)] at h3
    have e1 : ((cntK 1 (l.set q ⟨1, x, vk, va, vb⟩) : Nat) : Int) = (cf : Int) + 1 := by rw [HK1.out]; rfl
    have e2 : ((cntK 2 (l.set q ⟨1, x, vk, va, vb⟩) : Nat) : Int) = ct2 := by
      have := HK2.out
      rw [he]
      omega
    have h4 := St.exJoin (hashPs b (l.set q ⟨1, x, vk, va, vb⟩)) (some ⟨g, 0, none⟩, c) (L := L ++ [blkA w.heap.size #[.int .i64 vk, .int .i64 va, .int .i64 vb] 67]) i (by have := HIL.out; simp; omega) (by
      unfold hashPs
      rw [e1, e2, List.length_set, HN.out]
      exact h3)
    rw [List.set_append_left _ _ HIL.out] at h4
    have h5 := h4.take L.length
    rw [List.take_left' (by simp)] at h5
    exact h5
end Go.Proofs.Ytcmbbkaioopkhaa
