/-
  The package hash: a value is put.
-/
import Derived.Test.YtcmbbkaioopkhaaHash4
namespace Go.Proofs.Ytcmbbkaioopkhaa
open Go Go.RowKit
set_option linter.unusedVariables false
set_option linter.unusedSimpArgs false

theorem tail_get (P T : List Asr) (n k : Nat) (hk : P.length = n) : (P ++ T)[n + k]? = T[k]? := by
  subst hk
  rw [List.getElem?_append_right (by omega), Nat.add_sub_cancel_left]
theorem tail_set (P T : List Asr) (n k : Nat) (X : Asr) (hk : P.length = n) : (P ++ T).set (n + k) X = P ++ T.set k X := by
  subst hk
  rw [List.set_append_right _ _ (by omega), Nat.add_sub_cancel_left]
theorem flatSl_set3 (l : List SlotV) (q : Nat) (hq : q < l.length) (vk va vb : Int) :
    (((flatSl l).set (q * 5 + 2) (.int .i64 vk)).set (q * 5 + 3) (.int .i64 va)).set (q * 5 + 4) (.int .i64 vb) = flatSl (l.set q ⟨(sl l q).kind, (sl l q).idx, vk, va, vb⟩) := by
  have f := fun (y : SlotV) (j : Nat) (u : Value) (hj : j < 5) (l : List SlotV) (z : SlotV) (h : l[q]? = some z) (he : y.cells = z.cells.set j u) => flat_set SlotV.cells 5 (fun _ => rfl) y j u hj l q z h he
  have hs := sl_get hq
  obtain ⟨s, hs'⟩ : ∃ s, sl l q = s := ⟨_, rfl⟩
  rw [hs'] at hs ⊢
  unfold flatSl
  have h3 := f ⟨s.kind, s.idx, vk, s.va, s.vb⟩ 2 (.int .i64 vk) (by decide) l s hs rfl
  have h4 := f ⟨s.kind, s.idx, vk, va, s.vb⟩ 3 (.int .i64 va) (by decide) (l.set q ⟨s.kind, s.idx, vk, s.va, s.vb⟩) _ (List.getElem?_set_self hq) rfl
  have h5 := f ⟨s.kind, s.idx, vk, va, vb⟩ 4 (.int .i64 vb) (by decide) (l.set q ⟨s.kind, s.idx, vk, va, s.vb⟩) _ (List.getElem?_set_self hq) rfl
  rw [List.set_set] at h4 h5
  rw [h3, h4, h5]
theorem St.store3 {w0 w : World} {L : List Asr} {i g e' n c : Nat} {e : TypeId} {xs : List Value} (h : St w0 w L) (hi : L[i]? = some (slA e e' (.slice (some ⟨g, 0, none⟩) n c) n xs)) (hn : 0 < n) (j : Nat) (u0 u1 u2 : Value) :
    St w0 (((w.setCell ⟨g, j, none⟩ u0).setCell ⟨g, j + 1, none⟩ u1).setCell ⟨g, j + 2, none⟩ u2) (L.set i (slA e e' (.slice (some ⟨g, 0, none⟩) n c) n (((xs.set j u0).set (j + 1) u1).set (j + 2) u2))) := by
  have hil := (List.getElem?_eq_some_iff.1 hi).1
  have h1 := h.store1 hi hn j u0
  have h2 := h1.store1 (List.getElem?_set_self hil) hn (j + 1) u1
  rw [List.set_set] at h2
  have h3 := h2.store1 (List.getElem?_set_self hil) hn (j + 2) u2
  rw [List.set_set] at h3
  exact h3

set_option maxHeartbeats 1000000 in
theorem hash_Put_no (b : Nat) (x : Int) (hx : x < 0 ∨ 65536 ≤ x) (vk va vb : Int) (w : World) :
    Calls Try.prog 32 #[.pointer (some ⟨b, 0, none⟩), .int .i64 x, .agg #[.int .i64 vk, .int .i64 va, .int .i64 vb]] w (Ret w (.tuple #[zV, .bool false])) := by
  have hb := zero_res (w := w.alloc (.cells #[.int .i64 vk, .int .i64 va, .int .i64 vb] 67)) (Keep.refl _ Nope)
  have HKK := Lib.hid (((Keep.refl w Nope).alloc (.cells #[.int .i64 vk, .int .i64 va, .int .i64 vb] 67)).alloc (.cells #[.int .i64 0, .int .i64 0, .int .i64 0] 67))
  rw [World.size_alloc] at hb
  have e0 := hb.cell 0
  have e1 := hb.cell 1
  have e2 := hb.cell 2
  simp at e0 e1 e2
  have HE0 := Lib.hid e0
  have HE1 := Lib.hid e1
  have HE2 := Lib.hid e2
  clear hb e0 e1 e2
  by_cases h0 : x < 0
  · clear hx
    go_enter Try.func32, Try.ntmps32
    go_wp2_with fail
    have e0 := HE0.out
    have e1 := HE1.out
    have e2 := HE2.out
    refine bodyPost_ret (v := .tuple #[.agg #[.int .i64 0, .int .i64 0, .int .i64 0], .bool false]) (by simp [results, Try.results32, go_sem, e0, e1, e2]) rfl ⟨rfl, HKK.out⟩
  · have h1 : 65536 ≤ x := hx.resolve_left h0
    have hd : decide (x < 0) = false := decide_eq_false h0
    clear hx h0
    go_enter Try.func32, Try.ntmps32
    go_wp2_with fail
    have e0 := HE0.out
    have e1 := HE1.out
    have e2 := HE2.out
    refine bodyPost_ret (v := .tuple #[.agg #[.int .i64 0, .int .i64 0, .int .i64 0], .bool false]) (by simp [results, Try.results32, go_sem, e0, e1, e2]) rfl ⟨rfl, HKK.out⟩

set_option maxRecDepth 2000 in
set_option maxHeartbeats 2000000 in
theorem hash_Put_new {w0 w : World} {L : List Asr} {b : Nat} {l : List SlotV} (H : St w0 w L) (i : Nat) (hi : L[i]? = some (hashA b l)) (hT : Tab hmO l) (hP : Pow l.length) (hl : l.length ≤ 262144) (x : Int) (h0 : 0 ≤ x) (h1 : x < 65536) (vk va vb : Int) (q : Int) (hf : findS hmO l x = (-1, q)) (hno : ∀ p, p < l.length → (sl l p).kind = 1 → (sl l p).idx ≠ x) :
    Calls Try.prog 32 #[.pointer (some ⟨b, 0, none⟩), .int .i64 x, .agg #[.int .i64 vk, .int .i64 va, .int .i64 vb]] w (fun e w' => e = .returned (.tuple #[zV, .bool false]) ∧ St w0 w' (L.set i (hashA b (insS hmO (growS hmO l) x vk va vb)))) := by
  have HIL := Lib.hid (List.getElem?_eq_some_iff.1 hi).1
  have hA := (H.box #[.int .i64 vk, .int .i64 va, .int .i64 vb] 67).box #[.int .i64 0, .int .i64 0, .int .i64 0] 67
  rw [World.size_alloc, List.append_assoc] at hA
  have hi2 : (L ++ ([blkA w.heap.size #[.int .i64 vk, .int .i64 va, .int .i64 vb] 67] ++ [blkA (w.heap.size + 1) #[.int .i64 0, .int .i64 0, .int .i64 0] 67]))[i]? = some (hashA b l) := by rw [List.getElem?_append_left HIL.out]; exact hi
  have hC := hash_find hA i hi2 hT hP x h0 h1
  rw [hf] at hC
  have HC := Lib.hid hC
  have HA := Lib.hid hA
  have HI2 := Lib.hid hi2
  have HT := Lib.hid hT
  have HP := Lib.hid hP
  have h8 := hP.pos.1
  have hPN : Pow (newN l) := by
    unfold newN
    split
    · exact hP.twice (by omega)
    · exact hP
  obtain ⟨g1, g2, g3, g4, g5⟩ := hT.grow h8 hPN.home
  have hPG : Pow (growS hmO l).length := by rcases g5 with e | e <;> rw [e]; exact hP; exact hPN
  have hno2 : ∀ p, p < (growS hmO l).length → (sl (growS hmO l) p).kind = 1 → (sl (growS hmO l) p).idx ≠ x := by
    intro p hp hk he
    obtain ⟨p', a1, a2⟩ := (g4 x _ _ _).1 ⟨p, hp, (slot_eta _ hk).trans (by rw [he])⟩
    exact hno p' a1 (by rw [a2]) (by rw [a2])
  obtain ⟨q2, q1, qf, qk, qe, _⟩ := g1.ins ⟨h0, h1⟩ vk va vb hno2 g3
  have HG1 := Lib.hid g1
  have HPG := Lib.hid hPG
  have hc1 := cntK_le 1 l
  have HCC := Lib.hid (show cntK 1 (growS hmO l) ≤ 1000000 ∧ cntK 2 (growS hmO l) ≤ 1000000 by
    refine ⟨by rw [g2]; omega, ?_⟩
    have := cntK_le 2 (growS hmO l)
    have hh : newN l ≤ 2 * l.length := by unfold newN; split <;> omega
    rcases g5 with e | e <;> rw [e] at this <;> omega)
  have HQ := Lib.hid (show q2 < (growS hmO l).length ∧ findS hmO (growS hmO l) x = (-1, (q2 : Int)) ∧ (sl (growS hmO l) q2).kind ≠ 1 ∧ insS hmO (growS hmO l) x vk va vb = (growS hmO l).set q2 ⟨1, x, vk, va, vb⟩ from ⟨q1, qf, qk, qe⟩)
  clear H hi hA hi2 hC hf hno g1 g2 g3 g4 g5 hPG hPN hno2 q1 qf qk qe hT hP hc1
  go_enter Try.func32, Try.ntmps32
  go_wp2_with fail
  refine (HC.out).mono ?_
  rintro e w1 ⟨rfl, hk1⟩
  have H1 := Lib.hid (HA.out.keep hk1); clear hk1 HA HC
  go_wp2_with fail
  refine (hash_grow H1.out i HI2.out HT.out HP.out (by omega)).mono ?_
  rintro e w2 ⟨rfl, hst⟩
  rw [List.set_append_left _ _ HIL.out] at hst
  have H2 := Lib.hid hst; clear hst H1
  have v0 := (H2.out.blk (L.length + 0) (b := w.heap.size) (tail_get _ _ _ 0 (by simp))).cell 0
  have v1 := (H2.out.blk (L.length + 0) (b := w.heap.size) (tail_get _ _ _ 0 (by simp))).cell 1
  have v2 := (H2.out.blk (L.length + 0) (b := w.heap.size) (tail_get _ _ _ 0 (by simp))).cell 2
  simp at v0 v1 v2
  go_wp2_with fail
  refine (hash_put1 H2.out i (by rw [List.getElem?_append_left (by simpa using HIL.out), List.getElem?_set_self HIL.out]) HG1.out HPG.out x h0 h1 vk va vb q2 HQ.out.1 HQ.out.2.1 HQ.out.2.2.1 _ rfl HCC.out.1 HCC.out.2).mono ?_
  rintro e w3 ⟨rfl, hst⟩
  rw [List.set_append_left _ _ (by simpa using HIL.out), List.set_set, ← HQ.out.2.2.2] at hst
  have H3 := Lib.hid hst; clear hst H2 v0 v1 v2
  have hb := H3.out.blk (L.length + 1) (b := w.heap.size + 1) (tail_get _ _ _ 1 (by simp))
  have e0 := hb.cell 0
  have e1 := hb.cell 1
  have e2 := hb.cell 2
  have y0 := hb.frozen 0
  have y1 := hb.frozen 1
  have y2 := hb.frozen 2
  simp at e0 e1 e2
  have HB := Lib.hid hb
  clear hb
  go_wp2_with fail
  have hb5 := ((HB.out.setCell 0 (.int .i64 0)).setCell 1 (.int .i64 0)).setCell 2 (.int .i64 0)
  have e0 := hb5.cell 0
  have e1 := hb5.cell 1
  have e2 := hb5.cell 2
  simp at e0 e1 e2
  have k1 := H3.out.write (L.length + 1) (b := w.heap.size + 1) (tail_get _ _ _ 1 (by simp)) 0 (.int .i64 0)
  rw [tail_set _ _ _ 1 _ (by simp)] at k1
  have k2 := k1.write (L.length + 1) (b := w.heap.size + 1) (tail_get _ _ _ 1 (by simp)) 1 (.int .i64 0)
  rw [tail_set _ _ _ 1 _ (by simp)] at k2
  have k3 := k2.write (L.length + 1) (b := w.heap.size + 1) (tail_get _ _ _ 1 (by simp)) 2 (.int .i64 0)
  rw [tail_set _ _ _ 1 _ (by simp)] at k3
  have k4 := k3.take L.length
  rw [List.take_left' (by simp)] at k4
  have HE := Lib.hid k4
  clear hb5 k1 k2 k3 k4 y0 y1 y2
  refine bodyPost_ret (v := .tuple #[.agg #[.int .i64 0, .int .i64 0, .int .i64 0], .bool false]) (by simp [results, Try.results32, go_sem, e0, e1, e2]) rfl ⟨rfl, HE.out⟩

set_option maxRecDepth 2000 in
set_option maxHeartbeats 2000000 in
theorem hash_Put_old {w0 w : World} {L : List Asr} {b : Nat} {l : List SlotV} (H : St w0 w L) (i : Nat) (hi : L[i]? = some (hashA b l)) (hT : Tab hmO l) (hP : Pow l.length) (x : Int) (h0 : 0 ≤ x) (h1 : x < 65536) (vk va vb : Int) (p : Nat) (hp : p < l.length) (hf : findS hmO l x = ((p : Int), -1)) (hk1 : (sl l p).kind = 1) (hk2 : (sl l p).idx = x) :
    Calls Try.prog 32 #[.pointer (some ⟨b, 0, none⟩), .int .i64 x, .agg #[.int .i64 vk, .int .i64 va, .int .i64 vb]] w (fun e w' => e = .returned (.tuple #[(sl l p).val, .bool true]) ∧ St w0 w' (L.set i (hashA b (l.set p ⟨1, x, vk, va, vb⟩)))) := by
  have HIL := Lib.hid (List.getElem?_eq_some_iff.1 hi).1
  have hA := (H.box #[.int .i64 vk, .int .i64 va, .int .i64 vb] 67).box #[.int .i64 0, .int .i64 0, .int .i64 0] 67
  rw [World.size_alloc, List.append_assoc] at hA
  have hi2 : (L ++ ([blkA w.heap.size #[.int .i64 vk, .int .i64 va, .int .i64 vb] 67] ++ [blkA (w.heap.size + 1) #[.int .i64 0, .int .i64 0, .int .i64 0] 67]))[i]? = some (hashA b l) := by rw [List.getElem?_append_left HIL.out]; exact hi
  have hC := hash_find hA i hi2 hT hP x h0 h1
  rw [hf] at hC
  have HC := Lib.hid hC
  obtain ⟨⟨a, c⟩, h⟩ := hA.exSplit i hi2
  rw [List.set_append_left _ _ HIL.out, ← List.append_assoc] at h
  have hset := flatSl_set3 l p hp vk va vb
  rw [hk1, hk2] at hset
  have HSET := Lib.hid hset
  have k1 := cntK_set 1 ⟨1, x, vk, va, vb⟩ l p hp
  have k2 := cntK_set 2 ⟨1, x, vk, va, vb⟩ l p hp
  rw [hk1] at k1 k2
  have HK1 := Lib.hid (show cntK 1 (l.set p ⟨1, x, vk, va, vb⟩) = cntK 1 l by simpa using k1)
  have HK2 := Lib.hid (show cntK 2 (l.set p ⟨1, x, vk, va, vb⟩) = cntK 2 l by simpa using k2)
  obtain ⟨n, hn⟩ : ∃ n, l.length = n := ⟨_, rfl⟩
  obtain ⟨cf, hcf⟩ : ∃ cf, cntK 1 l = cf := ⟨_, rfl⟩
  obtain ⟨ct, hct⟩ : ∃ ct, cntK 2 l = ct := ⟨_, rfl⟩
  unfold hashPs at h
  rw [hn, hcf, hct] at h
  rw [hcf] at HK1
  rw [hct] at HK2
  have HN := Lib.hid hn
  have hpn : p < n := by rw [← hn]; exact hp
  have HPL := Lib.hid hp
  have HH := Lib.hid (show St w0 _ ((blkA b #[.int .i64 cf, .int .i64 ct, .slice a n c] 92 :: slA 79 5 (.slice a n c) n (flatSl l) :: L.set i empA) ++ [blkA w.heap.size #[.int .i64 vk, .int .i64 va, .int .i64 vb] 67, blkA (w.heap.size + 1) #[.int .i64 0, .int .i64 0, .int .i64 0] 67]) from h)
  clear H hi hA hi2 hC hf hT hP h k1 k2 hn hcf hct hp hset hk1 hk2
  go_enter Try.func32, Try.ntmps32
  go_wp2_with fail
  refine (HC.out).mono ?_
  rintro e w1 ⟨rfl, hk1⟩
  have H1 := Lib.hid (HH.out.keep hk1); clear hk1 HH HC
  have c2 := (H1.out.blk 0 (b := b) rfl).cell 2
  simp at c2
  obtain ⟨g, rfl, hgl, hgf, hgc, _⟩ := H1.out.store 1 (n := n) (a := a) (c := c) rfl (by omega)
  have fg := fun j (hj : j < 5) => flat_get SlotV.cells 5 (fun _ => rfl) l p j _ (sl_get HPL.out) hj
  have y2 := hgc (p * 5 + 2) (by omega)
  have y3 := hgc (p * 5 + 3) (by omega)
  have y4 := hgc (p * 5 + 4) (by omega)
  rw [show (flatSl l)[p * 5 + 2]? = _ from fg 2 (by decide)] at y2
  rw [show (flatSl l)[p * 5 + 3]? = _ from fg 3 (by decide)] at y3
  rw [show (flatSl l)[p * 5 + 4]? = _ from fg 4 (by decide)] at y4
  simp [SlotV.cells] at y2 y3 y4
  obtain ⟨s, hs⟩ : ∃ s, sl l p = s := ⟨_, rfl⟩
  rw [hs] at y2 y3 y4
  have HS := Lib.hid hs
  obtain ⟨sk, sx, sa, sb, sc⟩ := s
  simp only at y2 y3 y4
  have hpi : (p : Int) < n := by omega
  have hcap : n ≤ c ∧ c ≤ maxLen := by obtain ⟨_, ho, _⟩ := H1.out.rd 1 (n := n) rfl; exact ho.cap
  unfold maxLen at hcap
  clear hgf hgc fg hs
  go_upto_region 6 with (fail)
  have h2 := H1.out.box #[.int .i64 sa, .int .i64 sb, .int .i64 sc] 67
  rw [List.append_assoc] at h2
  have H2 := Lib.hid h2
  obtain ⟨w2, hw2⟩ : ∃ w2, w2 = w1.alloc (.cells #[.int .i64 sa, .int .i64 sb, .int .i64 sc] 67) := ⟨_, rfl⟩
  rw [← hw2] at H2
  rw [← hw2]
  clear h2 y2 y3 y4 c2 hgl H1
  have c2 := (H2.out.blk 0 (b := b) rfl).cell 2
  have q0 := (H2.out.blk (2 + L.length + 0) (b := w.heap.size) (tail_get _ _ _ 0 (by simp; omega))).cell 0
  have q1 := (H2.out.blk (2 + L.length + 0) (b := w.heap.size) (tail_get _ _ _ 0 (by simp; omega))).cell 1
  have q2 := (H2.out.blk (2 + L.length + 0) (b := w.heap.size) (tail_get _ _ _ 0 (by simp; omega))).cell 2
  simp at c2 q0 q1 q2
  obtain ⟨g', he, hgl, hgf, hgc, _⟩ := H2.out.store 1 (n := n) (a := some ⟨g, 0, none⟩) (c := c) rfl (by omega)
  injection he with he
  injection he with he
  subst he
  have fg := fun j (hj : j < 5) => flat_get SlotV.cells 5 (fun _ => rfl) l p j _ (sl_get HPL.out) hj
  have y2 := hgc (p * 5 + 2) (by omega)
  have y3 := hgc (p * 5 + 3) (by omega)
  have y4 := hgc (p * 5 + 4) (by omega)
  rw [show (flatSl l)[p * 5 + 2]? = _ from fg 2 (by decide)] at y2
  rw [show (flatSl l)[p * 5 + 3]? = _ from fg 3 (by decide)] at y3
  rw [show (flatSl l)[p * 5 + 4]? = _ from fg 4 (by decide)] at y4
  simp [SlotV.cells] at y2 y3 y4
  have z2 := hgf (p * 5 + 2)
  have z3 := hgf (p * 5 + 3)
  have z4 := hgf (p * 5 + 4)
  clear hgf hgc fg hgl hw2
  refine wp_region_M (r := 6) (S := fun w' => w'.cell? ⟨b, 2, none⟩ = some (.slice (some ⟨g, 0, none⟩) n c) ∧ w'.cell? ⟨w.heap.size, 0, none⟩ = some (.int .i64 vk) ∧ w'.cell? ⟨w.heap.size, 1, none⟩ = some (.int .i64 va) ∧ w'.cell? ⟨w.heap.size, 2, none⟩ = some (.int .i64 vb)) (by kernel_rfl) ?_ (fun hHeld => ?_)
  · (try dsimp only); go_keep
  (refine wpAnyM_takeP (i := 0) (oi := ?_) (v := ?_) ?_ ?_ ?_ ?_ ?_ ?_ ?_ ?_ ?_; rotate_left 2; (· simp only [List.getElem?_toArray, List.getElem?_cons_succ, List.getElem?_cons_zero]; exact rfl); (· kernel_rfl); (· kernel_rfl); (· kernel_rfl); (· kernel_rfl); (· first | exact fun _ _ _ h => h | exact fun _ _ _ h => (HPan.out _ _ _ h).elim); (· (refine Or.inl ⟨by rfl, ?_⟩; (intro w hSw; (try dsimp only at hSw); go_simp) <;> with_reducible rfl)); (· exact fun _ => hHeld); simp only [Act.put, List.setIfInBounds_toArray, List.set_cons_zero, List.set_cons_succ])
  (refine wpAnyM_takeP (i := 1) (oi := ?_) (v := ?_) ?_ ?_ ?_ ?_ ?_ ?_ ?_ ?_ ?_; rotate_left 2; (· simp only [List.getElem?_toArray, List.getElem?_cons_succ, List.getElem?_cons_zero]; exact rfl); (· kernel_rfl); (· kernel_rfl); (· kernel_rfl); (· kernel_rfl); (· first | exact fun _ _ _ h => h | exact fun _ _ _ h => (HPan.out _ _ _ h).elim); (· (refine Or.inl ⟨by rfl, ?_⟩; (intro w hSw; (try dsimp only at hSw); go_simp) <;> with_reducible rfl)); (· exact fun _ => hHeld); simp only [Act.put, List.setIfInBounds_toArray, List.set_cons_zero, List.set_cons_succ])
  (refine wpAnyM_takeP (i := 2) (oi := ?_) (v := ?_) ?_ ?_ ?_ ?_ ?_ ?_ ?_ ?_ ?_; rotate_left 2; (· simp only [List.getElem?_toArray, List.getElem?_cons_succ, List.getElem?_cons_zero]; exact rfl); (· kernel_rfl); (· kernel_rfl); (· kernel_rfl); (· kernel_rfl); (· first | exact fun _ _ _ h => h | exact fun _ _ _ h => (HPan.out _ _ _ h).elim); (· (refine Or.inl ⟨by rfl, ?_⟩; (intro w hSw; (try dsimp only at hSw); go_simp) <;> with_reducible rfl)); (· exact fun _ => hHeld); simp only [Act.put, List.setIfInBounds_toArray, List.set_cons_zero, List.set_cons_succ])
  (refine wpAnyM_take (i := 3) (oi := ?_) (v := ?_) ?_ ?_ ?_ ?_ ?_ ?_ ?_ ?_ ?_ ?_; rotate_left 2; (· simp only [List.getElem?_toArray, List.getElem?_cons_succ, List.getElem?_cons_zero]; exact rfl); (· kernel_rfl); (· kernel_rfl); (· kernel_rfl); (· kernel_rfl); (· kernel_rfl); (· first | exact fun _ _ _ h => h | exact fun _ _ _ h => (HPan.out _ _ _ h).elim); (· (refine Or.inl ⟨by rfl, ?_⟩; (intro w hSw; (try dsimp only at hSw); go_simp) <;> with_reducible rfl)); (· assumption); simp only [Act.put, List.setIfInBounds_toArray, List.set_cons_zero, List.set_cons_succ])
  (refine wpAnyM_takeP (i := 4) (oi := ?_) (v := ?_) ?_ ?_ ?_ ?_ ?_ ?_ ?_ ?_ ?_; rotate_left 2; (· simp only [List.getElem?_toArray, List.getElem?_cons_succ, List.getElem?_cons_zero]; exact rfl); (· kernel_rfl); (· kernel_rfl); (· kernel_rfl); (· kernel_rfl); (· first | exact fun _ _ _ h => h | exact fun _ _ _ h => (HPan.out _ _ _ h).elim); (· (refine Or.inl ⟨by rfl, ?_⟩; (intro w hSw; (try dsimp only at hSw); go_simp) <;> with_reducible rfl)); (· exact fun _ => hHeld); simp only [Act.put, List.setIfInBounds_toArray, List.set_cons_zero, List.set_cons_succ])
  (refine wpAnyM_take (i := 5) (oi := ?_) (v := ?_) ?_ ?_ ?_ ?_ ?_ ?_ ?_ ?_ ?_ ?_; rotate_left 2; (· simp only [List.getElem?_toArray, List.getElem?_cons_succ, List.getElem?_cons_zero]; exact rfl); (· kernel_rfl); (· kernel_rfl); (· kernel_rfl); (· kernel_rfl); (· kernel_rfl); (· first | exact fun _ _ _ h => h | exact fun _ _ _ h => (HPan.out _ _ _ h).elim); (· (refine Or.inl ⟨by rfl, ?_⟩; (intro w hSw; (try dsimp only at hSw); go_simp) <;> with_reducible rfl)); (· assumption); simp only [Act.put, List.setIfInBounds_toArray, List.set_cons_zero, List.set_cons_succ])
  refine wpAnyM_ready (rs := [6]) (by kernel_rfl) (by simp) ?_
  refine AllReadyM.free (o := ?_) ?_ (by kernel_rfl) ?_ ?_
  rotate_left 1
  · simp only [List.getElem?_toArray, List.getElem?_cons_succ, List.getElem?_cons_zero]; exact rfl
  rotate_left 1
  · exact AllReadyM.nil
  intro K hK
  go_simp
  refine hK.out _ _ ?_
  clear hK K
  (refine wpAnyM_takeP (i := 7) (oi := ?_) (v := ?_) ?_ ?_ ?_ ?_ ?_ ?_ ?_ ?_ ?_; rotate_left 2; (· simp only [List.getElem?_toArray, List.getElem?_cons_succ, List.getElem?_cons_zero]; exact rfl); (· kernel_rfl); (· kernel_rfl); (· kernel_rfl); (· kernel_rfl); (· first | exact fun _ _ _ h => h | exact fun _ _ _ h => (HPan.out _ _ _ h).elim); (· (refine Or.inl ⟨by rfl, ?_⟩; (intro w hSw; (try dsimp only at hSw); go_simp) <;> with_reducible rfl)); (· exact fun h => Bool.noConfusion (show true = false from h)); simp only [Act.put, List.setIfInBounds_toArray, List.set_cons_zero, List.set_cons_succ])
  refine wpAnyM_ready (rs := [8]) (by kernel_rfl) (by simp) ?_
  refine AllReadyM.free (o := ?_) ?_ (by kernel_rfl) ?_ ?_
  rotate_left 1
  · simp only [List.getElem?_toArray, List.getElem?_cons_succ, List.getElem?_cons_zero]; exact rfl
  rotate_left 1
  · exact AllReadyM.nil
  intro K hK
  go_simp
  refine hK.out _ _ ?_
  clear hK K
  refine wpAnyM_done (by kernel_rfl) ?_ _
  have h3 := (H2.out.store3 (i := 1) rfl (by omega) (p * 5 + 2) (.int .i64 vk) (.int .i64 va) (.int .i64 vb)).drew
  obtain ⟨w3, hw3⟩ : ∃ w3, w3 = (((w2.setCell ⟨g, p * 5 + 2, none⟩ (.int .i64 vk)).setCell ⟨g, p * 5 + 3, none⟩ (.int .i64 va)).setCell ⟨g, p * 5 + 4, none⟩ (.int .i64 vb)).drew := ⟨_, rfl⟩
  rw [show (((flatSl l).set (p * 5 + 2) (.int .i64 vk)).set (p * 5 + 2 + 1) (.int .i64 va)).set (p * 5 + 2 + 2) (.int .i64 vb) = flatSl (l.set p ⟨1, x, vk, va, vb⟩) from HSET.out] at h3
  have H3 := Lib.hid (show St w0 w3 ((blkA b #[.int .i64 cf, .int .i64 ct, .slice (some ⟨g, 0, none⟩) n c] 92 :: slA 79 5 (.slice (some ⟨g, 0, none⟩) n c) n (flatSl (l.set p ⟨1, x, vk, va, vb⟩)) :: L.set i empA) ++ [blkA w.heap.size #[.int .i64 vk, .int .i64 va, .int .i64 vb] 67, blkA (w.heap.size + 1) #[.int .i64 0, .int .i64 0, .int .i64 0] 67, blkA w1.heap.size #[.int .i64 sa, .int .i64 sb, .int .i64 sc] 67]) from hw3 ▸ h3)
  rw [← hw3]
  clear h3 hw3 H2 c2 q0 q1 q2 y2 y3 y4 z2 z3 z4 hHeld
  have hbw := H3.out.blk (2 + L.length + 2) (b := w1.heap.size) (tail_get _ _ _ 2 (by simp; omega))
  have u0 := hbw.cell 0
  have u1 := hbw.cell 1
  have u2 := hbw.cell 2
  have hb := H3.out.blk (2 + L.length + 1) (b := w.heap.size + 1) (tail_get _ _ _ 1 (by simp; omega))
  have e0 := hb.cell 0
  have e1 := hb.cell 1
  have e2 := hb.cell 2
  have y0 := hb.frozen 0
  have y1 := hb.frozen 1
  have y2 := hb.frozen 2
  simp at e0 e1 e2 u0 u1 u2
  have HB := Lib.hid hb
  clear hb hbw
  go_wp2_with fail
  rw [HS.out]
  have hb5 := ((HB.out.setCell 0 (.int .i64 sa)).setCell 1 (.int .i64 sb)).setCell 2 (.int .i64 sc)
  have e0 := hb5.cell 0
  have e1 := hb5.cell 1
  have e2 := hb5.cell 2
  simp at e0 e1 e2
  have k1 := H3.out.write (2 + L.length + 1) (b := w.heap.size + 1) (tail_get _ _ _ 1 (by simp; omega)) 0 (.int .i64 sa)
  rw [tail_set _ _ _ 1 _ (by simp; omega)] at k1
  have k2 := k1.write (2 + L.length + 1) (b := w.heap.size + 1) (tail_get _ _ _ 1 (by simp; omega)) 1 (.int .i64 sb)
  rw [tail_set _ _ _ 1 _ (by simp; omega)] at k2
  have k3 := k2.write (2 + L.length + 1) (b := w.heap.size + 1) (tail_get _ _ _ 1 (by simp; omega)) 2 (.int .i64 sc)
  rw [tail_set _ _ _ 1 _ (by simp; omega)] at k3
  have k4 := k3.take (2 + L.length)
  rw [List.take_left' (by simp; omega)] at k4
  have k5 := St.exJoin (hashPs b (l.set p ⟨1, x, vk, va, vb⟩)) (some ⟨g, 0, none⟩, c) (L := L) i HIL.out (by
    unfold hashPs
    rw [HK1.out, HK2.out, List.length_set, HN.out]
    exact k4)
  have HE := Lib.hid k5
  clear hb5 k1 k2 k3 k4 k5 y0 y1 y2 u0 u1 u2
  refine bodyPost_ret (v := .tuple #[.agg #[.int .i64 sa, .int .i64 sb, .int .i64 sc], .bool true]) (by simp [results, Try.results32, go_sem, e0, e1, e2]) rfl ⟨rfl, HE.out⟩
end Go.Proofs.Ytcmbbkaioopkhaa
