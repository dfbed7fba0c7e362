/-
  The package hash: a value is put; The package hash: a value is taken away; The package hash: what a put, a take and a get do to what is there; Words of sixty-four bits: the program's, as numbers; Sets of numbers below 64 as a word: how many, the least from one on, one more, one fewer. No program in sight; The model's operations on words of 64 bits, as sets of numbers. No program in sight.
-/
import Derived.Test.YtkiikblpgppmkaaGreatDoorTlM03
import Derived.Test.YtkiikblpgppmkaaGreatDoorProg
import Derived.Test.YtkiikblpgppmkaaGreatDoorTlM02
namespace Go.Proofs.YtkiikblpgppmkaaGreatDoor
open Go Go.RowKit
set_option linter.unusedVariables false
set_option linter.unusedSimpArgs false

theorem tail_get (P T : List Asr) (n k : Nat) (hk : P.length = n) : (P ++ T)[n + k]? = T[k]? := by
  subst hk
  rw [List.getElem?_append_right (by omega), Nat.add_sub_cancel_left]
theorem tail_set (P T : List Asr) (n k : Nat) (X : Asr) (hk : P.length = n) : (P ++ T).set (n + k) X = P ++ T.set k X := by
  subst hk
  rw [List.set_append_right _ _ (by omega), Nat.add_sub_cancel_left]
theorem flatSl_set3 (l : List SlotV) (q : Nat) (hq : q < l.length) (vk va vb : Int) :
    (((flatSl l).set (q * 5 + 2) (.int .i64 vk)).set (q * 5 + 3) (.int .i64 va)).set (q * 5 + 4) (.int .i64 vb) = flatSl (l.set q ⟨(sl l q).kind, (sl l q).idx, vk, va, vb⟩) := by
  have f := fun (y : SlotV) (j : Nat) (u : Value) (hj : j < 5) (l : List SlotV) (z : SlotV) (h : l[q]? = some z) (he : y.cells = z.cells.set j u) => flat_set SlotV.cells 5 (fun _ => rfl) y j u hj l q z h he
  have hs := sl_get hq
  obtain ⟨s, hs'⟩ : ∃ s, sl l q = s := ⟨_, rfl⟩
  rw [hs'] at hs ⊢
  unfold flatSl
  have h3 := f ⟨s.kind, s.idx, vk, s.va, s.vb⟩ 2 (.int .i64 vk) (by decide) l s hs rfl
  have h4 := f ⟨s.kind, s.idx, vk, va, s.vb⟩ 3 (.int .i64 va) (by decide) (l.set q ⟨s.kind, s.idx, vk, s.va, s.vb⟩) _ (List.getElem?_set_self hq) rfl
  have h5 := f ⟨s.kind, s.idx, vk, va, vb⟩ 4 (.int .i64 vb) (by decide) (l.set q ⟨s.kind, s.idx, vk, va, s.vb⟩) _ (List.getElem?_set_self hq) rfl
  rw [List.set_set] at h4 h5
  rw [h3, h4, h5]
theorem St.store3 {w0 w : World} {L : List Asr} {i g e' n c : Nat} {e : TypeId} {xs : List Value} (h : St w0 w L) (hi : L[i]? = some (slA e e' (.slice (some ⟨g, 0, none⟩) n c) n xs)) (hn : 0 < n) (j : Nat) (u0 u1 u2 : Value) :
    St w0 (((w.setCell ⟨g, j, none⟩ u0).setCell ⟨g, j + 1, none⟩ u1).setCell ⟨g, j + 2, none⟩ u2) (L.set i (slA e e' (.slice (some ⟨g, 0, none⟩) n c) n (((xs.set j u0).set (j + 1) u1).set (j + 2) u2))) := by
  have hil := (List.getElem?_eq_some_iff.1 hi).1
  have h1 := h.store1 hi hn j u0
  have h2 := h1.store1 (List.getElem?_set_self hil) hn (j + 1) u1
  rw [List.set_set] at h2
  have h3 := h2.store1 (List.getElem?_set_self hil) hn (j + 2) u2
  rw [List.set_set] at h3
  exact h3

set_option maxRecDepth 2000 in
set_option maxHeartbeats 2000000 in
theorem hash_Put_new {w0 w : World} {L : List Asr} {b : Nat} {l : List SlotV} (H : St w0 w L) (i : Nat) (hi : L[i]? = some (hashA b l)) (hT : HTab hmO l) (hP : Pow l.length) (hl : l.length ≤ 262144) (x : Int) (h0 : 0 ≤ x) (h1 : x < 65536) (vk va vb : Int) (q : Int) (hf : findS hmO l x = (-1, q)) (hno : ∀ p, p < l.length → (sl l p).kind = 1 → (sl l p).idx ≠ x) :
    Calls Tryz.prog 393 #[.pointer (some ⟨b, 0, none⟩), .int .i64 x, .agg #[.int .i64 vk, .int .i64 va, .int .i64 vb]] w (fun e w' => e = .returned (.tuple #[zV, .bool false]) ∧ St w0 w' (L.set i (hashA b (insS hmO (growS hmO l) x vk va vb)))) := by
  have HIL := Lib.hid (List.getElem?_eq_some_iff.1 hi).1
  have hA := (H.box #[.int .i64 vk, .int .i64 va, .int .i64 vb] 34).box #[.int .i64 0, .int .i64 0, .int .i64 0] 34
  rw [World.size_alloc, List.append_assoc] at hA
  have hi2 : (L ++ ([blkA w.heap.size #[.int .i64 vk, .int .i64 va, .int .i64 vb] 34] ++ [blkA (w.heap.size + 1) #[.int .i64 0, .int .i64 0, .int .i64 0] 34]))[i]? = some (hashA b l) := by rw [List.getElem?_append_left HIL.out]; exact hi
  have hC := hash_find hA i hi2 hT hP x h0 h1
  rw [hf] at hC
  have HC := Lib.hid hC
  have HA := Lib.hid hA
  have HI2 := Lib.hid hi2
  have HT := Lib.hid hT
  have HP := Lib.hid hP
  have h8 := hP.pos.1
  have hPN : Pow (newN l) := by
    unfold newN
    split
    · exact hP.twice (by omega)
    · exact hP
  obtain ⟨g1, g2, g3, g4, g5⟩ := hT.grow h8 hPN.home
  have hPG : Pow (growS hmO l).length := by rcases g5 with e | e <;> rw [e]; exact hP; exact hPN
  have hno2 : ∀ p, p < (growS hmO l).length → (sl (growS hmO l) p).kind = 1 → (sl (growS hmO l) p).idx ≠ x := by
    intro p hp hk he
    obtain ⟨p', a1, a2⟩ := (g4 x _ _ _).1 ⟨p, hp, (slot_eta _ hk).trans (by rw [he])⟩
    exact hno p' a1 (by rw [a2]) (by rw [a2])
  obtain ⟨q2, q1, qf, qk, qe, _⟩ := g1.ins ⟨h0, h1⟩ vk va vb hno2 g3
  have HG1 := Lib.hid g1
  have HPG := Lib.hid hPG
  have hc1 := cntK_le 1 l
  have HCC := Lib.hid (show cntK 1 (growS hmO l) ≤ 1000000 ∧ cntK 2 (growS hmO l) ≤ 1000000 by
    refine ⟨by rw [g2]; omega, ?_⟩
    have := cntK_le 2 (growS hmO l)
    have hh : newN l ≤ 2 * l.length := by unfold newN; split <;> omega
    rcases g5 with e | e <;> rw [e] at this <;> omega)
  have HQ := Lib.hid (show q2 < (growS hmO l).length ∧ findS hmO (growS hmO l) x = (-1, (q2 : Int)) ∧ (sl (growS hmO l) q2).kind ≠ 1 ∧ insS hmO (growS hmO l) x vk va vb = (growS hmO l).set q2 ⟨1, x, vk, va, vb⟩ from ⟨q1, qf, qk, qe⟩)
  clear H hi hA hi2 hC hf hno g1 g2 g3 g4 g5 hPG hPN hno2 q1 qf qk qe hT hP hc1
  go_enter Tryz.func393, Tryz.ntmps393
  go_wp2_with fail
  refine (HC.out).mono ?_
  rintro e w1 ⟨rfl, hk1⟩
  have H1 := Lib.hid (HA.out.keep hk1); clear hk1 HA HC
  go_wp2_with fail
  refine (hash_grow H1.out i HI2.out HT.out HP.out (by omega)).mono ?_
  rintro e w2 ⟨rfl, hst⟩
  rw [List.set_append_left _ _ HIL.out] at hst
  have H2 := Lib.hid hst; clear hst H1
  have v0 := (H2.out.blk (L.length + 0) (b := w.heap.size) (tail_get _ _ _ 0 (by simp))).cell 0
  have v1 := (H2.out.blk (L.length + 0) (b := w.heap.size) (tail_get _ _ _ 0 (by simp))).cell 1
  have v2 := (H2.out.blk (L.length + 0) (b := w.heap.size) (tail_get _ _ _ 0 (by simp))).cell 2
  simp at v0 v1 v2
  go_wp2_with fail
  refine (hash_put1 H2.out i (by rw [List.getElem?_append_left (by simpa using HIL.out), List.getElem?_set_self HIL.out]) HG1.out HPG.out x h0 h1 vk va vb q2 HQ.out.1 HQ.out.2.1 HQ.out.2.2.1 _ rfl HCC.out.1 HCC.out.2).mono ?_
  rintro e w3 ⟨rfl, hst⟩
  rw [List.set_append_left _ _ (by simpa using HIL.out), List.set_set, ← HQ.out.2.2.2] at hst
  have H3 := Lib.hid hst; clear hst H2 v0 v1 v2
  have hb := H3.out.blk (L.length + 1) (b := w.heap.size + 1) (tail_get _ _ _ 1 (by simp))
  have e0 := hb.cell 0
  have e1 := hb.cell 1
  have e2 := hb.cell 2
  have y0 := hb.frozen 0
  have y1 := hb.frozen 1
  have y2 := hb.frozen 2
  simp at e0 e1 e2
  have HB := Lib.hid hb
  clear hb
  go_wp2_with fail
  have hb5 := ((HB.out.setCell 0 (.int .i64 0)).setCell 1 (.int .i64 0)).setCell 2 (.int .i64 0)
  have e0 := hb5.cell 0
  have e1 := hb5.cell 1
  have e2 := hb5.cell 2
  simp at e0 e1 e2
  have k1 := H3.out.write (L.length + 1) (b := w.heap.size + 1) (tail_get _ _ _ 1 (by simp)) 0 (.int .i64 0)
  rw [tail_set _ _ _ 1 _ (by simp)] at k1
  have k2 := k1.write (L.length + 1) (b := w.heap.size + 1) (tail_get _ _ _ 1 (by simp)) 1 (.int .i64 0)
  rw [tail_set _ _ _ 1 _ (by simp)] at k2
  have k3 := k2.write (L.length + 1) (b := w.heap.size + 1) (tail_get _ _ _ 1 (by simp)) 2 (.int .i64 0)
  rw [tail_set _ _ _ 1 _ (by simp)] at k3
  have k4 := k3.take L.length
  rw [List.take_left' (by simp)] at k4
  have HE := Lib.hid k4
  clear hb5 k1 k2 k3 k4 y0 y1 y2
  refine bodyPost_ret (v := .tuple #[.agg #[.int .i64 0, .int .i64 0, .int .i64 0], .bool false]) (by simp [results, Tryz.results393, go_sem, e0, e1, e2]) rfl ⟨rfl, HE.out⟩

set_option maxRecDepth 2000 in
set_option maxHeartbeats 2000000 in
theorem hash_Put_old {w0 w : World} {L : List Asr} {b : Nat} {l : List SlotV} (H : St w0 w L) (i : Nat) (hi : L[i]? = some (hashA b l)) (hT : HTab hmO l) (hP : Pow l.length) (x : Int) (h0 : 0 ≤ x) (h1 : x < 65536) (vk va vb : Int) (p : Nat) (hp : p < l.length) (hf : findS hmO l x = ((p : Int), -1)) (hk1 : (sl l p).kind = 1) (hk2 : (sl l p).idx = x) :
    Calls Tryz.prog 393 #[.pointer (some ⟨b, 0, none⟩), .int .i64 x, .agg #[.int .i64 vk, .int .i64 va, .int .i64 vb]] w (fun e w' => e = .returned (.tuple #[(sl l p).val, .bool true]) ∧ St w0 w' (L.set i (hashA b (l.set p ⟨1, x, vk, va, vb⟩)))) := by
  have HIL := Lib.hid (List.getElem?_eq_some_iff.1 hi).1
  have hA := (H.box #[.int .i64 vk, .int .i64 va, .int .i64 vb] 34).box #[.int .i64 0, .int .i64 0, .int .i64 0] 34
  rw [World.size_alloc, List.append_assoc] at hA
  have hi2 : (L ++ ([blkA w.heap.size #[.int .i64 vk, .int .i64 va, .int .i64 vb] 34] ++ [blkA (w.heap.size + 1) #[.int .i64 0, .int .i64 0, .int .i64 0] 34]))[i]? = some (hashA b l) := by rw [List.getElem?_append_left HIL.out]; exact hi
  have hC := hash_find hA i hi2 hT hP x h0 h1
  rw [hf] at hC
  have HC := Lib.hid hC
  obtain ⟨⟨a, c⟩, h⟩ := hA.exSplit i hi2
  rw [List.set_append_left _ _ HIL.out, ← List.append_assoc] at h
  have hset := flatSl_set3 l p hp vk va vb
  rw [hk1, hk2] at hset
  have HSET := Lib.hid hset
  have k1 := cntK_set 1 ⟨1, x, vk, va, vb⟩ l p hp
  have k2 := cntK_set 2 ⟨1, x, vk, va, vb⟩ l p hp
  rw [hk1] at k1 k2
  have HK1 := Lib.hid (show cntK 1 (l.set p ⟨1, x, vk, va, vb⟩) = cntK 1 l by simpa using k1)
  have HK2 := Lib.hid (show cntK 2 (l.set p ⟨1, x, vk, va, vb⟩) = cntK 2 l by simpa using k2)
  obtain ⟨n, hn⟩ : ∃ n, l.length = n := ⟨_, rfl⟩
  obtain ⟨cf, hcf⟩ : ∃ cf, cntK 1 l = cf := ⟨_, rfl⟩
  obtain ⟨ct, hct⟩ : ∃ ct, cntK 2 l = ct := ⟨_, rfl⟩
  unfold hashPs at h
  rw [hn, hcf, hct] at h
  rw [hcf] at HK1
  rw [hct] at HK2
  have HN := Lib.hid hn
  have hpn : p < n := by rw [← hn]; exact hp
  have HPL := Lib.hid hp
  have HH := Lib.hid (show St w0 _ ((blkA b #[.int .i64 cf, .int .i64 ct, .slice a n c] 440 :: slA 504 5 (.slice a n c) n (flatSl l) :: L.set i empA) ++ [blkA w.heap.size #[.int .i64 vk, .int .i64 va, .int .i64 vb] 34, blkA (w.heap.size + 1) #[.int .i64 0, .int .i64 0, .int .i64 0] 34]) from h)
  clear H hi hA hi2 hC hf hT hP h k1 k2 hn hcf hct hp hset hk1 hk2
  go_enter Tryz.func393, Tryz.ntmps393
  go_wp2_with fail
  refine (HC.out).mono ?_
  rintro e w1 ⟨rfl, hk1⟩
  have H1 := Lib.hid (HH.out.keep hk1); clear hk1 HH HC
  have c2 := (H1.out.blk 0 (b := b) rfl).cell 2
  simp at c2
  obtain ⟨g, rfl, hgl, hgf, hgc, _⟩ := H1.out.store 1 (n := n) (a := a) (c := c) rfl (by omega)
  have fg := fun j (hj : j < 5) => flat_get SlotV.cells 5 (fun _ => rfl) l p j _ (sl_get HPL.out) hj
  have y2 := hgc (p * 5 + 2) (by omega)
  have y3 := hgc (p * 5 + 3) (by omega)
  have y4 := hgc (p * 5 + 4) (by omega)
  rw [show (flatSl l)[p * 5 + 2]? = _ from fg 2 (by decide)] at y2
  rw [show (flatSl l)[p * 5 + 3]? = _ from fg 3 (by decide)] at y3
  rw [show (flatSl l)[p * 5 + 4]? = _ from fg 4 (by decide)] at y4
  simp [SlotV.cells] at y2 y3 y4
  obtain ⟨s, hs⟩ : ∃ s, sl l p = s := ⟨_, rfl⟩
  rw [hs] at y2 y3 y4
  have HS := Lib.hid hs
  obtain ⟨sk, sx, sa, sb, sc⟩ := s
  simp only at y2 y3 y4
  have hpi : (p : Int) < n := by omega
  have hcap : n ≤ c ∧ c ≤ maxLen := by obtain ⟨_, ho, _⟩ := H1.out.rd 1 (n := n) rfl; exact ho.cap
  unfold maxLen at hcap
  clear hgf hgc fg hs
  go_upto_region 6 with (fail)
  have h2 := H1.out.box #[.int .i64 sa, .int .i64 sb, .int .i64 sc] 34
  rw [List.append_assoc] at h2
  have H2 := Lib.hid h2
  obtain ⟨w2, hw2⟩ : ∃ w2, w2 = w1.alloc (.cells #[.int .i64 sa, .int .i64 sb, .int .i64 sc] 34) := ⟨_, rfl⟩
  rw [← hw2] at H2
  rw [← hw2]
  clear h2 y2 y3 y4 c2 hgl H1
  have c2 := (H2.out.blk 0 (b := b) rfl).cell 2
  have q0 := (H2.out.blk (2 + L.length + 0) (b := w.heap.size) (tail_get _ _ _ 0 (by simp; omega))).cell 0
  have q1 := (H2.out.blk (2 + L.length + 0) (b := w.heap.size) (tail_get _ _ _ 0 (by simp; omega))).cell 1
  have q2 := (H2.out.blk (2 + L.length + 0) (b := w.heap.size) (tail_get _ _ _ 0 (by simp; omega))).cell 2
  simp at c2 q0 q1 q2
  obtain ⟨g', he, hgl, hgf, hgc, _⟩ := H2.out.store 1 (n := n) (a := some ⟨g, 0, none⟩) (c := c) rfl (by omega)
  injection he with he
  injection he with he
  subst he
  have fg := fun j (hj : j < 5) => flat_get SlotV.cells 5 (fun _ => rfl) l p j _ (sl_get HPL.out) hj
  have y2 := hgc (p * 5 + 2) (by omega)
  have y3 := hgc (p * 5 + 3) (by omega)
  have y4 := hgc (p * 5 + 4) (by omega)
  rw [show (flatSl l)[p * 5 + 2]? = _ from fg 2 (by decide)] at y2
  rw [show (flatSl l)[p * 5 + 3]? = _ from fg 3 (by decide)] at y3
  rw [show (flatSl l)[p * 5 + 4]? = _ from fg 4 (by decide)] at y4
  simp [SlotV.cells] at y2 y3 y4
  have z2 := hgf (p * 5 + 2)
  have z3 := hgf (p * 5 + 3)
  have z4 := hgf (p * 5 + 4)
  clear hgf hgc fg hgl hw2
  refine wp_region_M (r := 6) (S := fun w' => w'.cell? ⟨b, 2, none⟩ = some (.slice (some ⟨g, 0, none⟩) n c) ∧ w'.cell? ⟨w.heap.size, 0, none⟩ = some (.int .i64 vk) ∧ w'.cell? ⟨w.heap.size, 1, none⟩ = some (.int .i64 va) ∧ w'.cell? ⟨w.heap.size, 2, none⟩ = some (.int .i64 vb)) (by kernel_rfl) ?_ (fun hHeld => ?_)
  · (try dsimp only); go_keep
  refine tkP 0 ?_; refine tkP 1 ?_; refine tkP 2 ?_; refine tkH 3 ?_; refine tkP 4 ?_; refine tkH 5 ?_; refine tkF 6 ?_
  intro K hK
  go_simp
  refine hK.out _ _ ?_
  clear hK K
  refine tkP 7 ?_; refine tkF 8 ?_
  intro K hK
  go_simp
  refine hK.out _ _ ?_
  clear hK K
  refine wpAnyM_done (by kernel_rfl) ?_ _
  have h3 := (H2.out.store3 (i := 1) rfl (by omega) (p * 5 + 2) (.int .i64 vk) (.int .i64 va) (.int .i64 vb)).drew
  obtain ⟨w3, hw3⟩ : ∃ w3, w3 = (((w2.setCell ⟨g, p * 5 + 2, none⟩ (.int .i64 vk)).setCell ⟨g, p * 5 + 3, none⟩ (.int .i64 va)).setCell ⟨g, p * 5 + 4, none⟩ (.int .i64 vb)).drew := ⟨_, rfl⟩
  rw [show (((flatSl l).set (p * 5 + 2) (.int .i64 vk)).set (p * 5 + 2 + 1) (.int .i64 va)).set (p * 5 + 2 + 2) (.int .i64 vb) = flatSl (l.set p ⟨1, x, vk, va, vb⟩) from HSET.out] at h3
  have H3 := Lib.hid (show St w0 w3 ((blkA b #[.int .i64 cf, .int .i64 ct, .slice (some ⟨g, 0, none⟩) n c] 440 :: slA 504 5 (.slice (some ⟨g, 0, none⟩) n c) n (flatSl (l.set p ⟨1, x, vk, va, vb⟩)) :: L.set i empA) ++ [blkA w.heap.size #[.int .i64 vk, .int .i64 va, .int .i64 vb] 34, blkA (w.heap.size + 1) #[.int .i64 0, .int .i64 0, .int .i64 0] 34, blkA w1.heap.size #[.int .i64 sa, .int .i64 sb, .int .i64 sc] 34]) from hw3 ▸ h3)
  rw [← hw3]
  clear h3 hw3 H2 c2 q0 q1 q2 y2 y3 y4 z2 z3 z4 hHeld
  have hbw := H3.out.blk (2 + L.length + 2) (b := w1.heap.size) (tail_get _ _ _ 2 (by simp; omega))
  have u0 := hbw.cell 0
  have u1 := hbw.cell 1
  have u2 := hbw.cell 2
  have hb := H3.out.blk (2 + L.length + 1) (b := w.heap.size + 1) (tail_get _ _ _ 1 (by simp; omega))
  have e0 := hb.cell 0
  have e1 := hb.cell 1
  have e2 := hb.cell 2
  have y0 := hb.frozen 0
  have y1 := hb.frozen 1
  have y2 := hb.frozen 2
  simp at e0 e1 e2 u0 u1 u2
  have HB := Lib.hid hb
  clear hb hbw
  go_wp2_with fail
  rw [HS.out]
  have hb5 := ((HB.out.setCell 0 (.int .i64 sa)).setCell 1 (.int .i64 sb)).setCell 2 (.int .i64 sc)
  have e0 := hb5.cell 0
  have e1 := hb5.cell 1
  have e2 := hb5.cell 2
  simp at e0 e1 e2
  have k1 := H3.out.write (2 + L.length + 1) (b := w.heap.size + 1) (tail_get _ _ _ 1 (by simp; omega)) 0 (.int .i64 sa)
  rw [tail_set _ _ _ 1 _ (by simp; omega)] at k1
  have k2 := k1.write (2 + L.length + 1) (b := w.heap.size + 1) (tail_get _ _ _ 1 (by simp; omega)) 1 (.int .i64 sb)
  rw [tail_set _ _ _ 1 _ (by simp; omega)] at k2
  have k3 := k2.write (2 + L.length + 1) (b := w.heap.size + 1) (tail_get _ _ _ 1 (by simp; omega)) 2 (.int .i64 sc)
  rw [tail_set _ _ _ 1 _ (by simp; omega)] at k3
  have k4 := k3.take (2 + L.length)
  rw [List.take_left' (by simp; omega)] at k4
  have k5 := St.exJoin (hashPs b (l.set p ⟨1, x, vk, va, vb⟩)) (some ⟨g, 0, none⟩, c) (L := L) i HIL.out (by
    unfold hashPs
    rw [HK1.out, HK2.out, List.length_set, HN.out]
    exact k4)
  have HE := Lib.hid k5
  clear hb5 k1 k2 k3 k4 k5 y0 y1 y2 u0 u1 u2
  refine bodyPost_ret (v := .tuple #[.agg #[.int .i64 sa, .int .i64 sb, .int .i64 sc], .bool true]) (by simp [results, Tryz.results393, go_sem, e0, e1, e2]) rfl ⟨rfl, HE.out⟩
end Go.Proofs.YtkiikblpgppmkaaGreatDoor

namespace Go.Proofs.YtkiikblpgppmkaaGreatDoor
open Go Go.RowKit
set_option linter.unusedVariables false
set_option linter.unusedSimpArgs false
def tab0 : List SlotV := List.replicate 8 emptyS
theorem tab0_ok : HTab hmO tab0 ∧ cntK 1 tab0 = 0 ∧ cntK 2 tab0 = 0 ∧ ∀ j a b c, ¬ Has tab0 j a b c := HTab.new 8 (by decide) Pow.eight.home
set_option maxHeartbeats 1000000 in
theorem hash_take_miss (b : Nat) (x : Int) (w : World) (hG : Calls Tryz.prog 391 #[.pointer (some ⟨b, 0, none⟩), .int .i64 x] (w.alloc (.cells #[.int .i64 0, .int .i64 0, .int .i64 0] 34)) (Ret (w.alloc (.cells #[.int .i64 0, .int .i64 0, .int .i64 0] 34)) (.tuple #[zV, .bool false]))) :
    Calls Tryz.prog 394 #[.pointer (some ⟨b, 0, none⟩), .int .i64 x] w (Ret w (.tuple #[zV, .bool false])) := by
  have HG := Lib.hid hG; clear hG
  go_enter Tryz.func394, Tryz.ntmps394
  go_wp2_with fail
  refine (HG.out).mono ?_
  rintro e w1 ⟨rfl, hk1⟩
  unfold zV
  have hb := (zero_res hk1).alloc (.cells #[.int .i64 0, .int .i64 0, .int .i64 0] 34)
  have hx := Blk.new w1 #[.int .i64 0, .int .i64 0, .int .i64 0] 34
  have HKK := Lib.hid (show Keep w (w1.alloc (.cells #[.int .i64 0, .int .i64 0, .int .i64 0] 34)) Nope from (((Keep.refl w Nope).alloc _).trans hk1 (fun _ f => f.elim)).alloc _)
  have HBB := Lib.hid hb
  have HX := Lib.hid hx
  clear hk1 hb hx
  go_upto_region 2 with (fail)
  obtain ⟨w2, hw2⟩ : ∃ w2, w2 = w1.alloc (.cells #[.int .i64 0, .int .i64 0, .int .i64 0] 34) := ⟨_, rfl⟩
  rw [← hw2] at HBB HX HKK ⊢
  clear hw2
  have z0 := HBB.out.cell 0
  have z1 := HBB.out.cell 1
  have z2 := HBB.out.cell 2
  have y0 := HBB.out.frozen 0
  have y1 := HBB.out.frozen 1
  have y2 := HBB.out.frozen 2
  have x0 := HX.out.cell 0
  have x1 := HX.out.cell 1
  have x2 := HX.out.cell 2
  simp at z0 z1 z2 x0 x1 x2
  go_wp2_with fail
  have hb5 := ((HBB.out.setCell 0 (.int .i64 0)).setCell 1 (.int .i64 0)).setCell 2 (.int .i64 0)
  have e0 := hb5.cell 0
  have e1 := hb5.cell 1
  have e2 := hb5.cell 2
  simp at e0 e1 e2
  have HE := Lib.hid (keep3 HKK.out (.int .i64 0) (.int .i64 0) (.int .i64 0))
  clear hb5 z0 z1 z2 y0 y1 y2 x0 x1 x2
  refine bodyPost_ret (v := .tuple #[.agg #[.int .i64 0, .int .i64 0, .int .i64 0], .bool false]) (by simp [results, Tryz.results394, go_sem, e0, e1, e2]) rfl ⟨rfl, HE.out⟩

set_option maxRecDepth 2000 in
set_option maxHeartbeats 2000000 in
theorem hash_take_yes {w0 w : World} {L : List Asr} {b : Nat} {l : List SlotV} (H : St w0 w L) (i : Nat) (hi : L[i]? = some (hashA b l)) (hT : HTab hmO l) (hP : Pow l.length) (x : Int) (h0 : 0 ≤ x) (h1 : x < 65536) (p : Nat) (hp : p < l.length) (hf : findS hmO l x = ((p : Int), -1)) (hk1 : (sl l p).kind = 1) :
    Calls Tryz.prog 394 #[.pointer (some ⟨b, 0, none⟩), .int .i64 x] w (fun e w' => e = .returned (.tuple #[(sl l p).val, .bool true]) ∧ St w0 w' (L.set i (hashA b (l.set p tombS)))) := by
  have HIL := Lib.hid (List.getElem?_eq_some_iff.1 hi).1
  have hA := H.box #[.int .i64 0, .int .i64 0, .int .i64 0] 34
  have hi2 : (L ++ [blkA w.heap.size #[.int .i64 0, .int .i64 0, .int .i64 0] 34])[i]? = some (hashA b l) := by rw [List.getElem?_append_left HIL.out]; exact hi
  have HG := Lib.hid (hash_get_yes hA i hi2 hT hP x h0 h1 p hp hf)
  obtain ⟨s, hs⟩ : ∃ s, sl l p = s := ⟨_, rfl⟩
  have HC := Lib.hid (fun (w9 : World) (M : List Asr) (h9 : St w0 w9 (L ++ M)) => (show Calls Tryz.prog 396 #[.pointer (some ⟨b, 0, none⟩), .int .i64 x] w9 (Ret w9 (.tuple #[.int .i64 (p : Int), .int .i64 (-1)])) from by
    have hC := hash_find h9 i (by rw [List.getElem?_append_left HIL.out]; exact hi) hT hP x h0 h1
    rw [hf] at hC
    exact hC))
  have k1 := cntK_set 1 tombS l p hp
  have k2 := cntK_set 2 tombS l p hp
  rw [hk1] at k1 k2
  simp [tombS] at k1 k2
  have hcl := cntK_le 1 l
  have hcl2 := cntK_le 2 l
  have hset := flatSl_set5 l p hp 2 0 0 0 0
  have HSET := Lib.hid hset
  have HI := Lib.hid hi
  rw [hs] at HG ⊢
  have HS := Lib.hid hs
  obtain ⟨n, hn⟩ : ∃ n, l.length = n := ⟨_, rfl⟩
  obtain ⟨cf, hcf⟩ : ∃ cf, cntK 1 l = cf := ⟨_, rfl⟩
  obtain ⟨ct, hct⟩ : ∃ ct, cntK 2 l = ct := ⟨_, rfl⟩
  rw [hcf] at k1 hcl
  rw [hct] at k2 hcl2
  have HK1 := Lib.hid k1
  have HK2 := Lib.hid k2
  have HN := Lib.hid hn
  have HCF := Lib.hid hcf
  have HCT := Lib.hid hct
  have HPL := Lib.hid hp
  have hnb := hP.pos.2
  rw [hn] at hcl hcl2 hnb hp
  have HA := Lib.hid hA
  have hcf1 : 1 ≤ cf := by omega
  clear H hi hA hi2 hT hP hf hk1 hs k1 k2 hset hn hcf hct
  obtain ⟨sk, sx, sa, sb, sc⟩ := s
  simp only [SlotV.val] at HG ⊢
  go_enter Tryz.func394, Tryz.ntmps394
  go_wp2_with fail
  refine (HG.out).mono ?_
  rintro e w1 ⟨rfl, hk⟩
  have h2 := (HA.out.keep hk).box #[.int .i64 sa, .int .i64 sb, .int .i64 sc] 34
  rw [List.append_assoc] at h2
  have H2 := Lib.hid h2
  clear h2 hk HA HG
  go_wp2_with fail
  refine (HC.out _ _ H2.out).mono ?_
  rintro e w3 ⟨rfl, hk⟩
  obtain ⟨⟨a, c⟩, h3⟩ := (H2.out.keep hk).exSplit i (by rw [List.getElem?_append_left HIL.out]; exact HI.out)
  rw [List.set_append_left _ _ HIL.out, ← List.append_assoc] at h3
  unfold hashPs at h3
  rw [HN.out, HCF.out, HCT.out] at h3
  have H3 := Lib.hid (show St w0 w3 ((blkA b #[.int .i64 cf, .int .i64 ct, .slice a n c] 440 :: slA 504 5 (.slice a n c) n (flatSl l) :: L.set i empA) ++ [blkA w.heap.size #[.int .i64 0, .int .i64 0, .int .i64 0] 34, blkA w1.heap.size #[.int .i64 sa, .int .i64 sb, .int .i64 sc] 34]) from h3)
  clear h3 hk H2 HC HI
  have c2 := (H3.out.blk 0 (b := b) rfl).cell 2
  simp at c2
  obtain ⟨g, rfl, hgl, hgf, hgc, _⟩ := H3.out.store 1 (n := n) (a := a) (c := c) rfl (by omega)
  have fg := fun j (hj : j < 5) => flat_get SlotV.cells 5 (fun _ => rfl) l p j _ (sl_get HPL.out) hj
  have y0 := hgc (p * 5 + 0) (by omega)
  have y1 := hgc (p * 5 + 1) (by omega)
  have y2 := hgc (p * 5 + 2) (by omega)
  have y3 := hgc (p * 5 + 3) (by omega)
  have y4 := hgc (p * 5 + 4) (by omega)
  rw [show (flatSl l)[p * 5 + 0]? = _ from fg 0 (by decide)] at y0
  rw [show (flatSl l)[p * 5 + 1]? = _ from fg 1 (by decide)] at y1
  rw [show (flatSl l)[p * 5 + 2]? = _ from fg 2 (by decide)] at y2
  rw [show (flatSl l)[p * 5 + 3]? = _ from fg 3 (by decide)] at y3
  rw [show (flatSl l)[p * 5 + 4]? = _ from fg 4 (by decide)] at y4
  simp [SlotV.cells] at y0 y1 y2 y3 y4
  have z0 := hgf (p * 5)
  have z1 := hgf (p * 5 + 1)
  have z2 := hgf (p * 5 + 2)
  have z3 := hgf (p * 5 + 3)
  have z4 := hgf (p * 5 + 4)
  have hpi : (p : Int) < n := by omega
  have hcap : n ≤ c ∧ c ≤ maxLen := by obtain ⟨_, ho, _⟩ := H3.out.rd 1 (n := n) rfl; exact ho.cap
  unfold maxLen at hcap
  clear hgf hgc fg hgl
  go_upto_region 5 with (fail)
  have h4 := H3.out.store5 (i := 1) rfl (by omega) (p * 5) (.int .i64 2) (.int .i64 0) (.int .i64 0) (.int .i64 0) (.int .i64 0)
  rw [HSET.out] at h4
  obtain ⟨w4, hw4⟩ : ∃ w4, w4 = ((((w3.setCell ⟨g, p * 5, none⟩ (.int .i64 2)).setCell ⟨g, p * 5 + 1, none⟩ (.int .i64 0)).setCell ⟨g, p * 5 + 2, none⟩ (.int .i64 0)).setCell ⟨g, p * 5 + 3, none⟩ (.int .i64 0)).setCell ⟨g, p * 5 + 4, none⟩ (.int .i64 0) := ⟨_, rfl⟩
  rw [← hw4] at h4 ⊢
  have H4 := Lib.hid (show St w0 w4 ((blkA b #[.int .i64 cf, .int .i64 ct, .slice (some ⟨g, 0, none⟩) n c] 440 :: slA 504 5 (.slice (some ⟨g, 0, none⟩) n c) n (flatSl (l.set p tombS)) :: L.set i empA) ++ [blkA w.heap.size #[.int .i64 0, .int .i64 0, .int .i64 0] 34, blkA w1.heap.size #[.int .i64 sa, .int .i64 sb, .int .i64 sc] 34]) from h4)
  clear h4 hw4 H3 y0 y1 y2 y3 y4 z0 z1 z2 z3 z4 c2
  have c0 := (H4.out.blk 0 (b := b) rfl).cell 0
  have c1 := (H4.out.blk 0 (b := b) rfl).cell 1
  have f0 := (H4.out.blk 0 (b := b) rfl).frozen 0
  have f1 := (H4.out.blk 0 (b := b) rfl).frozen 1
  simp at c0 c1
  go_upto_region 7 with (fail)
  have h5 := (H4.out.write 0 (b := b) rfl 0 (.int .i64 ((cf : Int) - 1))).write 0 (b := b) rfl 1 (.int .i64 ((ct : Int) + 1))
  obtain ⟨w5, hw5⟩ : ∃ w5, w5 = (w4.setCell ⟨b, 0, none⟩ (.int .i64 ((cf : Int) - 1))).setCell ⟨b, 1, none⟩ (.int .i64 ((ct : Int) + 1)) := ⟨_, rfl⟩
  rw [← hw5] at h5 ⊢
  have H5 := Lib.hid (show St w0 w5 ((blkA b #[.int .i64 ((cf : Int) - 1), .int .i64 ((ct : Int) + 1), .slice (some ⟨g, 0, none⟩) n c] 440 :: slA 504 5 (.slice (some ⟨g, 0, none⟩) n c) n (flatSl (l.set p tombS)) :: L.set i empA) ++ [blkA w.heap.size #[.int .i64 0, .int .i64 0, .int .i64 0] 34, blkA w1.heap.size #[.int .i64 sa, .int .i64 sb, .int .i64 sc] 34]) from h5)
  clear h5 hw5 H4 c0 c1 f0 f1
  have hbw := H5.out.blk (2 + L.length + 1) (b := w1.heap.size) (tail_get _ _ _ 1 (by simp; omega))
  have u0 := hbw.cell 0
  have u1 := hbw.cell 1
  have u2 := hbw.cell 2
  have hb := H5.out.blk (2 + L.length + 0) (b := w.heap.size) (tail_get _ _ _ 0 (by simp; omega))
  have e0 := hb.cell 0
  have e1 := hb.cell 1
  have e2 := hb.cell 2
  have y0 := hb.frozen 0
  have y1 := hb.frozen 1
  have y2 := hb.frozen 2
  simp at e0 e1 e2 u0 u1 u2
  have HB := Lib.hid hb
  clear hb hbw
  go_wp2_with fail
  have hb5 := ((HB.out.setCell 0 (.int .i64 sa)).setCell 1 (.int .i64 sb)).setCell 2 (.int .i64 sc)
  have e0 := hb5.cell 0
  have e1 := hb5.cell 1
  have e2 := hb5.cell 2
  simp at e0 e1 e2
  have k1 := H5.out.write (2 + L.length + 0) (b := w.heap.size) (tail_get _ _ _ 0 (by simp; omega)) 0 (.int .i64 sa)
  rw [tail_set _ _ _ 0 _ (by simp; omega)] at k1
  have k2 := k1.write (2 + L.length + 0) (b := w.heap.size) (tail_get _ _ _ 0 (by simp; omega)) 1 (.int .i64 sb)
  rw [tail_set _ _ _ 0 _ (by simp; omega)] at k2
  have k3 := k2.write (2 + L.length + 0) (b := w.heap.size) (tail_get _ _ _ 0 (by simp; omega)) 2 (.int .i64 sc)
  rw [tail_set _ _ _ 0 _ (by simp; omega)] at k3
  have k4 := k3.take (2 + L.length)
  rw [List.take_left' (by simp; omega)] at k4
  have c1 : ((cntK 1 (l.set p tombS) : Nat) : Int) = (cf : Int) - 1 := by have := HK1.out; unfold tombS; omega
  have c2 : ((cntK 2 (l.set p tombS) : Nat) : Int) = (ct : Int) + 1 := by have := HK2.out; unfold tombS; omega
  have k5 := St.exJoin (hashPs b (l.set p tombS)) (some ⟨g, 0, none⟩, c) (L := L) i HIL.out (by
    unfold hashPs
    rw [c1, c2, List.length_set, HN.out]
    exact k4)
  have HE := Lib.hid k5
  clear hb5 k1 k2 k3 k4 k5 y0 y1 y2 u0 u1 u2 c1 c2
  refine bodyPost_ret (v := .tuple #[.agg #[.int .i64 sa, .int .i64 sb, .int .i64 sc], .bool true]) (by simp [results, Tryz.results394, go_sem, e0, e1, e2]) rfl ⟨rfl, HE.out⟩
end Go.Proofs.YtkiikblpgppmkaaGreatDoor

namespace Go.Proofs.YtkiikblpgppmkaaGreatDoor
open Go Go.RowKit
set_option linter.unusedVariables false
set_option linter.unusedSimpArgs false

/-- A table behind C puts at most. -/
structure HInv (l : List SlotV) (C : Nat) : Prop where
  tab : HTab hmO l
  pow : Pow l.length
  len : l.length ≤ 8 + 4 * C
  cnt : cntK 1 l ≤ C
def agg3 (a b c : Int) : Value := .agg #[.int .i64 a, .int .i64 b, .int .i64 c]

structure PutOk (l : List SlotV) (C : Nat) (x vk va vb : Int) (l' : List SlotV) (had : Bool) (ov : Value) : Prop where
  inv : HInv l' (C + 1)
  has : ∀ j a b c, Has l' j a b c ↔ (j = x ∧ a = vk ∧ b = va ∧ c = vb) ∨ (j ≠ x ∧ Has l j a b c)
  yes : had = true → ∃ a b c, Has l x a b c ∧ ov = agg3 a b c
  no : had = false → ov = zV ∧ ∀ a b c, ¬ Has l x a b c
  cnt : cntK 1 l' = cntK 1 l + (if had = true then 0 else 1)
  len : l'.length = l.length ∨ (had = false ∧ l'.length = newN l)
  eq : l' = putS hmO l x vk va vb

theorem hash_put_any {w0 w : World} {L : List Asr} {b : Nat} {l : List SlotV} {C : Nat} (H : St w0 w L) (i : Nat) (hi : L[i]? = some (hashA b l)) (hI : HInv l C) (hC : C ≤ 60000) (x : Int) (h0 : 0 ≤ x) (h1 : x < 65536) (vk va vb : Int) :
    ∃ l' had ov, PutOk l C x vk va vb l' had ov ∧ Calls Tryz.prog 393 #[.pointer (some ⟨b, 0, none⟩), .int .i64 x, .agg #[.int .i64 vk, .int .i64 va, .int .i64 vb]] w (fun e w' => e = .returned (.tuple #[ov, .bool had]) ∧ St w0 w' (L.set i (hashA b l'))) := by
  have h8 := hI.pow.pos.1
  have hlen := hI.len
  rcases hI.tab.find x ⟨h0, h1⟩ with ⟨D, hD, hgo, k1, k2, hf⟩ | ⟨D, q, hD, hqD, hgo, hk, hq, hf⟩
  · have hp := ps_lt hI.tab.pos (hmO l.length x) D
    obtain ⟨u1, u2, u3, u4⟩ := hI.tab.upd ⟨h0, h1⟩ vk va vb hD hgo k1 k2
    refine ⟨_, true, _, ⟨⟨u1, by rw [List.length_set]; exact hI.pow, by rw [List.length_set]; omega, by rw [u2]; have := hI.cnt; omega⟩, u4, fun _ => ⟨_, _, _, (hI.tab.has hp k1 k2 _ _ _).2 ⟨rfl, rfl, rfl⟩, rfl⟩, (fun h => by cases h), by rw [u2]; rfl, .inl (by rw [List.length_set]), ?_⟩, hash_Put_old H i hi hI.tab hI.pow x h0 h1 vk va vb _ hp hf k1 k2⟩
    unfold putS
    rw [hf, if_pos (by omega)]
    rfl
  · have hno := hI.tab.none hD hgo hk
    have hPN : Pow (newN l) := by
      unfold newN
      split
      · exact hI.pow.twice (by omega)
      · exact hI.pow
    obtain ⟨g1, g2, g3, g4, g5⟩ := hI.tab.grow h8 hPN.home
    have hno2 : ∀ p, p < (growS hmO l).length → (sl (growS hmO l) p).kind = 1 → (sl (growS hmO l) p).idx ≠ x := by
      intro p hp hk he
      obtain ⟨p', a1, a2⟩ := (g4 x _ _ _).1 ⟨p, hp, (slot_eta _ hk).trans (by rw [he])⟩
      exact hno p' a1 (by rw [a2]) (by rw [a2])
    obtain ⟨q2, q1, qf, qk, qe, qt, qc, _, qh⟩ := g1.ins ⟨h0, h1⟩ vk va vb hno2 g3
    have hnone : ∀ a b c, ¬ Has l x a b c := by
      rintro a b c ⟨p, hp, e⟩
      exact hno p hp (by rw [e]) (by rw [e])
    have hcnt := hI.cnt
    refine ⟨_, false, _, ⟨⟨qt, (by rw [insS_length]; rcases g5 with e | e <;> rw [e]; exact hI.pow; exact hPN), ?_, by rw [qc, g2]; omega⟩, fun j a b c => ?_, (fun h => by cases h), fun _ => ⟨rfl, hnone⟩, by rw [qc, g2]; rfl, ?_, ?_⟩, hash_Put_new H i hi hI.tab hI.pow (by omega) x h0 h1 vk va vb _ hf hno⟩
    · rw [insS_length]
      rcases g5 with e | e
      · rw [e]; omega
      · rw [e]; unfold newN; split <;> omega
    · rw [qh, g4]
      constructor
      · rintro (h | h)
        · exact .inl h
        · by_cases e : j = x
          · subst e; exact absurd h (hnone a b c)
          · exact .inr ⟨e, h⟩
      · rintro (h | ⟨_, h⟩)
        · exact .inl h
        · exact .inr h
    · rw [insS_length]
      rcases g5 with e | e
      · exact .inl e
      · exact .inr ⟨rfl, e⟩
    · unfold putS
      rw [hf, if_neg (by omega)]

structure TakeOk (l : List SlotV) (C : Nat) (x : Int) (l' : List SlotV) (had : Bool) (ov : Value) : Prop where
  inv : HInv l' C
  has : ∀ j a b c, Has l' j a b c ↔ j ≠ x ∧ Has l j a b c
  yes : had = true → ∃ a b c, Has l x a b c ∧ ov = agg3 a b c
  no : had = false → ov = zV ∧ ∀ a b c, ¬ Has l x a b c
  cnt : cntK 1 l' + (if had = true then 1 else 0) = cntK 1 l
  len : l'.length = l.length
  eq : l' = takeS hmO l x

theorem set_same (L : List Asr) (i : Nat) (A : Asr) (hi : L[i]? = some A) : L.set i A = L := by
  apply List.ext_getElem?
  intro j
  by_cases e : i = j
  · subst e; rw [List.getElem?_set_self (List.getElem?_eq_some_iff.1 hi).1, hi]
  · rw [List.getElem?_set_ne e]

theorem hash_take_any {w0 w : World} {L : List Asr} {b : Nat} {l : List SlotV} {C : Nat} (H : St w0 w L) (i : Nat) (hi : L[i]? = some (hashA b l)) (hI : HInv l C) (hC : C ≤ 60000) (x : Int) (h0 : 0 ≤ x) (h1 : x < 65536) :
    ∃ l' had ov, TakeOk l C x l' had ov ∧ Calls Tryz.prog 394 #[.pointer (some ⟨b, 0, none⟩), .int .i64 x] w (fun e w' => e = .returned (.tuple #[ov, .bool had]) ∧ St w0 w' (L.set i (hashA b l'))) := by
  rcases hI.tab.find x ⟨h0, h1⟩ with ⟨D, hD, hgo, k1, k2, hf⟩ | ⟨D, q, hD, hqD, hgo, hk, hq, hf⟩
  · have hp := ps_lt hI.tab.pos (hmO l.length x) D
    obtain ⟨u1, u2, u3, u4⟩ := hI.tab.del hp k1 k2
    refine ⟨_, true, _, ⟨⟨u1, by rw [List.length_set]; exact hI.pow, by rw [List.length_set]; exact hI.len, by have := hI.cnt; omega⟩, u4, fun _ => ⟨_, _, _, (hI.tab.has hp k1 k2 _ _ _).2 ⟨rfl, rfl, rfl⟩, rfl⟩, (fun h => by cases h), u2, by rw [List.length_set], ?_⟩, hash_take_yes H i hi hI.tab hI.pow x h0 h1 _ hp hf k1⟩
    unfold takeS
    rw [hf, if_pos (by omega)]
    rfl
  · have hno := hI.tab.none hD hgo hk
    have hnone : ∀ a b c, ¬ Has l x a b c := by
      rintro a b c ⟨p, hp, e⟩
      exact hno p hp (by rw [e]) (by rw [e])
    refine ⟨l, false, zV, ⟨hI, fun j a b c => ?_, (fun h => by cases h), fun _ => ⟨rfl, hnone⟩, rfl, rfl, ?_⟩, ?_⟩
    · constructor
      · intro h
        exact ⟨fun e => by subst e; exact hnone a b c h, h⟩
      · exact fun h => h.2
    · unfold takeS
      rw [hf, if_neg (by omega)]
    · refine (hash_take_miss b x w (hash_get_none (H.alloc _) i hi hI.tab hI.pow x h0 h1 _ hf)).mono ?_
      rintro e w' ⟨rfl, hk⟩
      rw [set_same _ _ _ hi]
      exact ⟨rfl, H.keep hk⟩

theorem hash_get_any {w0 w : World} {L : List Asr} {b : Nat} {l : List SlotV} {C : Nat} (H : St w0 w L) (i : Nat) (hi : L[i]? = some (hashA b l)) (hI : HInv l C) (x : Int) (h0 : 0 ≤ x) (h1 : x < 65536) :
    ∃ had ov, (had = true → ∃ a b c, Has l x a b c ∧ ov = agg3 a b c) ∧ (had = false → ov = zV ∧ ∀ a b c, ¬ Has l x a b c) ∧ Calls Tryz.prog 391 #[.pointer (some ⟨b, 0, none⟩), .int .i64 x] w (Ret w (.tuple #[ov, .bool had])) := by
  rcases hI.tab.find x ⟨h0, h1⟩ with ⟨D, hD, hgo, k1, k2, hf⟩ | ⟨D, q, hD, hqD, hgo, hk, hq, hf⟩
  · have hp := ps_lt hI.tab.pos (hmO l.length x) D
    exact ⟨true, _, fun _ => ⟨_, _, _, (hI.tab.has hp k1 k2 _ _ _).2 ⟨rfl, rfl, rfl⟩, rfl⟩, (fun h => by cases h), hash_get_yes H i hi hI.tab hI.pow x h0 h1 _ hp hf⟩
  · have hno := hI.tab.none hD hgo hk
    refine ⟨false, _, (fun h => by cases h), fun _ => ⟨rfl, ?_⟩, hash_get_none H i hi hI.tab hI.pow x h0 h1 _ hf⟩
    rintro a b c ⟨p, hp, e⟩
    exact hno p hp (by rw [e]) (by rw [e])
end Go.Proofs.YtkiikblpgppmkaaGreatDoor

namespace Go.Proofs.YtkiikblpgppmkaaGreatDoor
open Go Go.RowKit
set_option linter.unusedVariables false
set_option linter.unusedSimpArgs false

/-- A number's bit; 0 of a number that is in none. -/
def oneW (i : Int) : Nat := if 0 ≤ i ∧ i < 64 then 2 ^ i.toNat else 0
def allW (l : List Int) : Nat := l.foldl (fun w i => w ||| oneW i) 0

theorem oneW_lt (i : Int) : oneW i < 2 ^ 64 := by
  unfold oneW
  split
  · exact Nat.pow_lt_pow_right (by decide) (by omega)
  · decide
theorem or_lt {a b : Nat} (ha : a < 2 ^ 64) (hb : b < 2 ^ 64) : a ||| b < 2 ^ 64 := Nat.or_lt_two_pow ha hb
theorem foldW_lt : ∀ (l : List Int) (w : Nat), w < 2 ^ 64 → l.foldl (fun w i => w ||| oneW i) w < 2 ^ 64
  | [], w, h => h
  | i :: l, w, h => foldW_lt l _ (or_lt h (oneW_lt i))
theorem allW_lt (l : List Int) : allW l < 2 ^ 64 := foldW_lt l 0 (by decide)
theorem allW_snoc (l : List Int) (i : Int) : allW (l ++ [i]) = allW l ||| oneW i := by simp [allW]
theorem bit_one (i : Int) (k : Nat) : (oneW i).testBit k = decide (i = k ∧ k < 64) := by
  unfold oneW
  split
  · rename_i h
    rw [Nat.testBit_two_pow]
    rw [Bool.eq_iff_iff]; simp; omega
  · rename_i h
    simp
    omega
/-- The model's operations on words, as numbers. -/
theorem bits_or (a b : Nat) (ha : a < 2 ^ 64) (hb : b < 2 ^ 64) : bits .or .u64 (a : Int) (b : Int) = ((a ||| b : Nat) : Int) := by
  show IntKind.u64.wrap (((BitVec.ofInt 64 a ||| BitVec.ofInt 64 b).toNat : Nat) : Int) = _
  rw [BitVec.toNat_or, BitVec.ofInt_natCast, BitVec.ofInt_natCast, BitVec.toNat_ofNat, BitVec.toNat_ofNat, Nat.mod_eq_of_lt ha, Nat.mod_eq_of_lt hb]
  have := or_lt ha hb
  exact IntWalk.u64_in _ (by omega)
theorem bits_and (a b : Nat) (ha : a < 2 ^ 64) (hb : b < 2 ^ 64) : bits .and .u64 (a : Int) (b : Int) = ((a &&& b : Nat) : Int) := by
  show IntKind.u64.wrap (((BitVec.ofInt 64 a &&& BitVec.ofInt 64 b).toNat : Nat) : Int) = _
  rw [BitVec.toNat_and, BitVec.ofInt_natCast, BitVec.ofInt_natCast, BitVec.toNat_ofNat, BitVec.toNat_ofNat, Nat.mod_eq_of_lt ha, Nat.mod_eq_of_lt hb]
  have := Nat.and_le_left (n := a) (m := b)
  exact IntWalk.u64_in _ (by omega)

set_option maxHeartbeats 400000 in
theorem bits_one (i : Int) (w : World) : Calls Tryz.prog 243 #[.int .i64 i] w (fun e w' => e = .returned (.int .u64 (oneW i : Nat)) ∧ w = w') := by
  by_cases h : 0 ≤ i ∧ i < 64
  · have HO := Lib.hid (show IntKind.u64.wrap (2 ^ i.toNat) = ((oneW i : Nat) : Int) by
      have h2 := oneW_lt i
      unfold oneW at h2 ⊢
      rw [if_pos h] at h2 ⊢
      rw [show (2 : Int) ^ i.toNat = ((2 ^ i.toNat : Nat) : Int) by push_cast; rfl]
      generalize 2 ^ i.toNat = q at h2 ⊢
      exact IntWalk.u64_in _ (by omega))
    obtain ⟨h1, h2⟩ := h
    go_enter Tryz.func243, Tryz.ntmps243
    go_wp2_with fail
    go_ret
    exact ⟨by rw [HO.out]; rfl, rfl⟩
  · have e : oneW i = 0 := if_neg h
    rw [e]
    by_cases h1 : i < 0
    · clear h e
      go_enter Tryz.func243, Tryz.ntmps243
      go_wp2_with fail
      go_ret
      exact ⟨rfl, rfl⟩
    · have h2 : 64 ≤ i := by omega
      clear h e
      go_enter Tryz.func243, Tryz.ntmps243
      go_wp2_with fail
      go_ret
      exact ⟨rfl, rfl⟩

/-- A slice of ints, read. -/
def ints (l : List Int) : List Value := l.map (.int .i64)
theorem ints_get {l : List Int} {k : Nat} {x : Int} (h : l[k]? = some x) : (ints l)[k]? = some (.int .i64 x) := by simp [ints, h]
/-- The cell of an element. -/
theorem Rd.int {S : Nat → Prop} {w : World} {v : Value} {n : Nat} {l : List Int} (h : Rd S w v n (ints l)) {k : Nat} {x : Int} (hk : l[k]? = some x) :
    ∃ b o, (∃ c, v = .slice (some ⟨b, o, none⟩) n c) ∧ S b ∧ w.cell? ⟨b, o + k, none⟩ = some (.int .i64 x) := by
  obtain ⟨a, c, rfl, _, _, _, h4⟩ := h
  obtain ⟨b, o, rfl, hb, hc⟩ := h4 k _ (ints_get hk)
  exact ⟨b, o, ⟨c, rfl⟩, hb, hc⟩

def LoopAll (w : World) (l : List Int) (g : Nat) (v3 v8 : Value) (wr : World) : Prop :=
  ∃ k : Nat, g + k = l.length ∧ v8 = .int .i64 k ∧ v3 = .int .u64 (allW (l.take k) : Nat) ∧ w = wr

set_option maxHeartbeats 1000000 in
theorem bits_all (v : Value) (l : List Int) (w : World) (S : Nat → Prop) (h : Rd S w v l.length (ints l)) :
    Calls Tryz.prog 244 #[v] w (fun e w' => e = .returned (.int .u64 (allW l : Nat)) ∧ w = w') := by
  obtain ⟨a, c, rfl, h1, h2, h3, h4⟩ := id h
  have hlen : l.length ≤ 9223372036854775807 := by unfold maxLen at h2; omega
  clear h1 h2 h3 h4
  have H := Lib.hid h; clear h
  go_enter Tryz.func244, Tryz.ntmps244
  go_wp2_with fail
  go_loopg [3, 8] l.length (fun g v3 v8 wr => LoopAll w l g v3 v8 wr)
  case atStart => exact ⟨0, rfl, rfl, rfl, rfl⟩
  case round =>
    obtain ⟨k, hk, rfl, rfl, rfl⟩ := hrel
    have hkl : k ≤ l.length := by omega
    have HK := Lib.hid hk; clear hk
    by_cases hlt : k < l.length
    · obtain ⟨x, hx⟩ : ∃ x, l[k]? = some x := ⟨_, List.getElem?_eq_getElem hlt⟩
      obtain ⟨bo, oo, ⟨c', hv⟩, _, hc0⟩ := H.out.int hx
      injection hv with hv1 hv2 hv3
      subst hv1; subst hv3
      have HT := Lib.hid (show allW (l.take (k + 1)) = allW (l.take k) ||| oneW x by rw [List.take_add_one, hx]; exact allW_snoc _ _)
      clear hx
      have HOR := Lib.hid (bits_or (allW (l.take k)) (oneW x) (allW_lt _) (oneW_lt _))
      go_wp2_with (go_at_call 243; refine (bits_one x _).mono ?_; rintro e w' ⟨rfl, rfl⟩)
      go_roundg (l.length - (k + 1))
      case measure => have := HK.out; omega
      case rel => exact ⟨k + 1, by omega, by go_num, by rw [HT.out, ← HOR.out], rfl⟩
    · have hkl' : k = l.length := by omega
      subst hkl'
      have HT := Lib.hid (show allW (l.take l.length) = allW l by rw [List.take_length])
      go_wp2_with fail
      go_ret
      exact ⟨by rw [HT.out]; rfl, rfl⟩

set_option maxHeartbeats 400000 in
theorem bits_with (d : Nat) (hd : d < 2 ^ 64) (v : Value) (l : List Int) (w : World) (S : Nat → Prop) (h : Rd S w v l.length (ints l)) :
    Calls Tryz.prog 203 #[.int .u64 (d : Nat), v] w (fun e w' => e = .returned (.int .u64 (d ||| allW l : Nat)) ∧ w = w') := by
  have H := Lib.hid h; clear h
  have HOR := Lib.hid (bits_or d (allW l) hd (allW_lt _)); clear hd
  go_enter Tryz.func203, Tryz.ntmps203
  go_wp2_with (go_at_call 244; refine (bits_all _ l _ S H.out).mono ?_; rintro e w' ⟨rfl, rfl⟩)
  go_ret
  exact ⟨by rw [← HOR.out]; rfl, rfl⟩

theorem and_one (d : Nat) (i : Int) : ((d &&& oneW i : Nat) : Int) = 0 ↔ (decide (0 ≤ i ∧ i < 64) && d.testBit i.toNat) = false := by
  have h1 : d &&& oneW i = 0 ↔ ∀ k, (d &&& oneW i).testBit k = false := ⟨fun h k => by rw [h]; simp, fun h => Nat.eq_of_testBit_eq (fun k => by rw [h k]; simp)⟩
  rw [show (((d &&& oneW i : Nat) : Int) = 0) = (d &&& oneW i = 0) by simp, h1]
  constructor
  · intro h
    by_cases hi : 0 ≤ i ∧ i < 64
    · have := h i.toNat
      rw [Nat.testBit_and, bit_one] at this
      have e : decide (i = (i.toNat : Int) ∧ i.toNat < 64) = true := by simp; omega
      rw [e] at this
      simpa [hi] using this
    · simp [hi]
  · intro h k
    rw [Nat.testBit_and, bit_one]
    by_cases hk : i = k ∧ k < 64
    · obtain ⟨rfl, hk⟩ := hk
      simp at h ⊢
      rw [h (by omega)]
      simp
    · simp [hk]

/-- Whether a number is in a word. -/
def hasW (d : Nat) (i : Int) : Bool := decide (0 ≤ i ∧ i < 64) && d.testBit i.toNat

set_option maxHeartbeats 400000 in
theorem bits_has (d : Nat) (hd : d < 2 ^ 64) (i : Int) (w : World) :
    Calls Tryz.prog 201 #[.int .u64 (d : Nat), .int .i64 i] w (fun e w' => e = .returned (.bool (hasW d i)) ∧ w = w') := by
  have HOR := Lib.hid (bits_and d (oneW i) hd (oneW_lt _)); clear hd
  have HI := Lib.hid (and_one d i)
  go_enter Tryz.func201, Tryz.ntmps201
  go_wp2_with (go_at_call 243; refine (bits_one i _).mono ?_; rintro e w' ⟨rfl, rfl⟩)
  go_ret
  refine ⟨?_, rfl⟩
  have h1 := HOR.out
  have h2 := HI.out
  rw [← h1] at h2
  refine congrArg (fun b => Ending.returned (.bool b)) (show (bits BinOp.and IntKind.u64 ↑d ↑(oneW i) != 0) = hasW d i from ?_)
  unfold hasW
  cases hb : (decide (0 ≤ i ∧ i < 64) && d.testBit i.toNat)
  · rw [hb] at h2; simpa using h2.2 rfl
  · rw [hb] at h2; simpa using h2
end Go.Proofs.YtkiikblpgppmkaaGreatDoor

namespace Go.Proofs.YtkiikblpgppmkaaGreatDoor
open Go Go.RowKit
set_option linter.unusedVariables false
set_option linter.unusedSimpArgs false

/-- How many numbers a word has. -/
def pop (m : Nat) : Nat := (List.range 64).countP (fun d => m.testBit d)
/-- A word with one number more, and one fewer. -/
def addW (m i : Nat) : Nat := m ||| 2 ^ i
def delW (m i : Nat) : Nat := (List.range 64).foldl (fun k d => if m.testBit d && d != i then k ||| 2 ^ d else k) 0
/-- The least number from one on that a word has; -1: there is none. -/
def firstW (m i : Nat) : Int := match (List.range 64).find? (fun d => decide (i ≤ d) && m.testBit d) with
  | some d => d
  | none => -1

theorem countP_add : ∀ {l : List Nat} (hn : l.Nodup) {i : Nat} (hi : i ∈ l) {p q : Nat → Bool} (hp : p i = false) (hq : q i = true) (h : ∀ x, x ∈ l → x ≠ i → q x = p x), l.countP q = l.countP p + 1
  | [], _, _, hi, _, _, _, _, _ => by simp at hi
  | a :: l, hn, i, hi, p, q, hp, hq, h => by
    obtain ⟨h1, h2⟩ := List.nodup_cons.1 hn
    by_cases e : a = i
    · subst e
      have : l.countP q = l.countP p := by
        apply List.countP_congr
        intro x hx
        rw [h x (List.mem_cons_of_mem _ hx) (fun e => h1 (e ▸ hx))]
      rw [List.countP_cons, List.countP_cons, this, hp, hq]
      simp
    · have hi' : i ∈ l := by
        rcases List.mem_cons.1 hi with h | h
        · exact (e h.symm).elim
        · exact h
      rw [List.countP_cons, List.countP_cons, countP_add h2 hi' hp hq (fun x hx => h x (List.mem_cons_of_mem _ hx)), h a (List.mem_cons_self) e]
      omega
theorem pop_zero : pop 0 = 0 := by simp [pop]
theorem pop_le (m : Nat) : pop m ≤ 64 := by
  have := List.countP_le_length (p := fun d => m.testBit d) (l := List.range 64)
  simpa [pop] using this
theorem testBit_ge {m k : Nat} (h : m < 2 ^ 64) (hk : 64 ≤ k) : m.testBit k = false :=
  Nat.testBit_lt_two_pow (Nat.lt_of_lt_of_le h (Nat.pow_le_pow_right (by decide) hk))
theorem word_ext {a b : Nat} (ha : a < 2 ^ 64) (hb : b < 2 ^ 64) (h : ∀ k, k < 64 → a.testBit k = b.testBit k) : a = b := by
  apply Nat.eq_of_testBit_eq
  intro k
  by_cases hk : k < 64
  · exact h k hk
  · rw [testBit_ge ha (by omega), testBit_ge hb (by omega)]
theorem bit_add (m i k : Nat) : (addW m i).testBit k = (m.testBit k || decide (k = i)) := by
  rw [addW, Nat.testBit_or, Nat.testBit_two_pow]
  by_cases e : i = k
  · simp [e]
  · have e2 : ¬ k = i := fun h => e h.symm
    simp [e, e2]
theorem addW_lt {m i : Nat} (h : m < 2 ^ 64) (hi : i < 64) : addW m i < 2 ^ 64 := Nat.or_lt_two_pow h (Nat.pow_lt_pow_right (by decide) hi)
theorem addW_ne (m i : Nat) : addW m i ≠ 0 := by
  intro h
  have := bit_add m i i
  rw [h] at this
  simp at this
theorem oneW_nat {i : Nat} (hi : i < 64) : oneW (i : Int) = 2 ^ i := by
  unfold oneW
  rw [if_pos (by omega)]
  simp
theorem pop_add {m i : Nat} (hi : i < 64) (h : m.testBit i = false) : pop (addW m i) = pop m + 1 :=
  countP_add List.nodup_range (List.mem_range.2 hi) h (by rw [bit_add]; simp) (fun x _ hx => by rw [bit_add]; simp [hx])
theorem foldW_bit (m i : Nat) : ∀ (l : List Nat) (k0 k : Nat), (l.foldl (fun k d => if m.testBit d && d != i then k ||| 2 ^ d else k) k0).testBit k = (k0.testBit k || (decide (k ∈ l) && (m.testBit k && k != i)))
  | [], k0, k => by simp
  | a :: l, k0, k => by
    rw [List.foldl_cons, foldW_bit m i l]
    by_cases e : k = a
    · subst e
      cases h : (m.testBit k && k != i) <;> simp [h]
    · have h2 : (2 ^ a).testBit k = false := by rw [Nat.testBit_two_pow]; simp; exact fun h => e h.symm
      split
      · rw [Nat.testBit_or, h2]
        simp [e]
      · simp [e]
theorem bit_del (m i : Nat) {k : Nat} (hk : k < 64) : (delW m i).testBit k = (m.testBit k && k != i) := by
  rw [delW, foldW_bit]
  simp [hk]
theorem bit_del_ge (m i : Nat) {k : Nat} (hk : 64 ≤ k) : (delW m i).testBit k = false := by
  rw [delW, foldW_bit]
  simp
  omega
theorem delW_lt (m i : Nat) : delW m i < 2 ^ 64 := Nat.lt_pow_two_of_testBit _ (fun k hk => bit_del_ge m i hk)
theorem pop_del {m i : Nat} (hi : i < 64) (h : m.testBit i = true) : pop m = pop (delW m i) + 1 := by
  have e : (delW m i).testBit i = false := by rw [bit_del m i hi]; simp
  rw [pop, pop]
  refine countP_add List.nodup_range (List.mem_range.2 hi) e h (fun x hm hx => ?_)
  rw [bit_del m i (List.mem_range.1 hm)]
  simp [hx]
theorem firstW_some {m i d : Nat} (h : firstW m i = (d : Int)) : i ≤ d ∧ d < 64 ∧ m.testBit d = true ∧ ∀ k, i ≤ k → k < d → m.testBit k = false := by
  unfold firstW at h
  split at h
  · rename_i d' h'
    have e : d' = d := by omega
    subst e
    obtain ⟨h1, l1, l2, h2, h3⟩ := List.find?_eq_some_iff_append.1 h'
    simp at h1
    have hd : d' < 64 := by
      have : d' ∈ List.range 64 := by rw [h2]; simp
      simpa using this
    refine ⟨h1.1, hd, h1.2, fun k hk hkd => ?_⟩
    have hk2 : k ∈ l1 := by
      have hm : k ∈ List.range 64 := by simp; omega
      rw [h2] at hm
      have hs : (List.range 64).Pairwise (· < ·) := List.pairwise_lt_range
      rw [h2] at hs
      rcases List.mem_append.1 hm with h | h
      · exact h
      · exfalso
        obtain ⟨_, h5, _⟩ := List.pairwise_append.1 hs
        rcases List.mem_cons.1 h with h | h
        · omega
        · have := (List.pairwise_cons.1 h5).1 k h
          omega
    have := h3 k hk2
    simp at this
    rcases this with h | h
    · omega
    · exact h
  · have : (-1 : Int) = d := h
    omega
theorem firstW_none {m i : Nat} (h : firstW m i = -1) : ∀ k, i ≤ k → k < 64 → m.testBit k = false := by
  unfold firstW at h
  split at h
  · omega
  · rename_i h'
    intro k hk hk2
    have := List.find?_eq_none.1 h' k (by simpa using hk2)
    simp at this
    exact this hk
theorem firstW_cases (m i : Nat) : firstW m i = -1 ∨ ∃ d : Nat, firstW m i = (d : Int) := by
  unfold firstW
  split
  · exact .inr ⟨_, rfl⟩
  · exact .inl rfl
end Go.Proofs.YtkiikblpgppmkaaGreatDoor

namespace Go.Proofs.YtkiikblpgppmkaaGreatDoor
open Go Go.RowKit
set_option linter.unusedVariables false
set_option linter.unusedSimpArgs false

theorem pow_lt {i : Nat} (hi : i < 64) : 2 ^ i < 2 ^ 64 := Nat.pow_lt_pow_right (by decide) hi
theorem andnot_val {a i : Nat} (ha : a < 2 ^ 64) (hi : i < 64) : bits .andNot .u64 (a : Int) ((2 ^ i : Nat) : Int) = ((delW a i : Nat) : Int) := by
  have hp := pow_lt hi
  have e : bits .andNot .u64 (a : Int) ((2 ^ i : Nat) : Int) = IntKind.u64.wrap (((BitVec.ofNat 64 a &&& ~~~ BitVec.ofNat 64 (2 ^ i)).toNat : Nat) : Int) := by
    show IntKind.u64.wrap (((BitVec.ofInt 64 a &&& ~~~ BitVec.ofInt 64 ((2 ^ i : Nat) : Int)).toNat : Nat) : Int) = _
    rw [BitVec.ofInt_natCast, BitVec.ofInt_natCast]
  have h1 : (BitVec.ofNat 64 a &&& ~~~ BitVec.ofNat 64 (2 ^ i)).toNat < 2 ^ 64 := BitVec.isLt _
  rw [e, IntWalk.u64_in _ (by omega)]
  congr 1
  apply word_ext h1 (delW_lt a i)
  intro k hk
  rw [bit_del a i hk]
  show (BitVec.ofNat 64 a &&& ~~~ BitVec.ofNat 64 (2 ^ i)).getLsbD k = _
  simp only [BitVec.getLsbD_and, BitVec.getLsbD_not, BitVec.getLsbD_ofNat, hk, decide_true, Bool.true_and]
  rw [Nat.testBit_two_pow]
  by_cases e : i = k
  · simp [e]
  · have e2 : ¬ k = i := fun h => e h.symm
    simp [e, e2]
/-- A word's bits from one on, moved down: none, or the least of them. -/
theorem shr_zero {m i : Nat} (hm : m < 2 ^ 64) : m / 2 ^ i = 0 ↔ firstW m i = -1 := by
  constructor
  · intro h
    rcases firstW_cases m i with h1 | ⟨d, h1⟩
    · exact h1
    · obtain ⟨h2, h3, h4, _⟩ := firstW_some h1
      exfalso
      have h5 : (m / 2 ^ i).testBit (d - i) = true := by
        rw [Nat.testBit_div_two_pow]
        rw [show d - i + i = d by omega]
        exact h4
      rw [h] at h5
      simp at h5
  · intro h
    apply Nat.eq_of_testBit_eq
    intro k
    rw [Nat.testBit_div_two_pow, Nat.zero_testBit]
    by_cases hk : k + i < 64
    · exact firstW_none h _ (by omega) hk
    · exact testBit_ge hm (by omega)
/-- The least bit of a word. -/
def tz (m : Nat) : Nat := (firstW m 0).toNat
theorem firstW_uniq {m i d : Nat} (h1 : i ≤ d) (h2 : d < 64) (h3 : m.testBit d = true) (h4 : ∀ k, i ≤ k → k < d → m.testBit k = false) : firstW m i = (d : Int) := by
  rcases firstW_cases m i with h | ⟨d', h⟩
  · have := firstW_none h d h1 h2
    rw [h3] at this
    cases this
  · obtain ⟨g1, g2, g3, g4⟩ := firstW_some h
    rw [h]
    congr 1
    rcases Nat.lt_trichotomy d d' with h5 | h5 | h5
    · rw [g4 d h1 h5] at h3
      cases h3
    · exact h5.symm
    · rw [h4 d' g1 h5] at g3
      cases g3
theorem shr_first {m i : Nat} (hm : m < 2 ^ 64) (h : m / 2 ^ i ≠ 0) : firstW m i = ((i + tz (m / 2 ^ i) : Nat) : Int) := by
  rcases firstW_cases m i with h1 | ⟨d, h1⟩
  · exact absurd ((shr_zero hm).2 h1) h
  · obtain ⟨g1, g2, g3, g4⟩ := firstW_some h1
    have : firstW (m / 2 ^ i) 0 = ((d - i : Nat) : Int) := firstW_uniq (by omega) (by omega) (by
      rw [Nat.testBit_div_two_pow, show d - i + i = d by omega]
      exact g3) (fun k _ hk => by
      rw [Nat.testBit_div_two_pow]
      exact g4 _ (by omega) (by omega))
    rw [h1, tz, this]
    congr 1
    simp
    omega
end Go.Proofs.YtkiikblpgppmkaaGreatDoor
