/-
  The document's table of slots: a take; a put of an index that is there, or that may not be.
-/
import Derived.Test.YtcmbbkaioopkhaaHash9
namespace Go.Proofs.Ytcmbbkaioopkhaa
open Go Go.RowKit
set_option linter.unusedVariables false
set_option linter.unusedSimpArgs false

/-- The table laid open in one world. -/
structure RhAt (w0 w : World) (L : List Asr) (i b : Nat) (l : List SlotV) (g c : Nat) : Prop where
  ptr : w.cell? ⟨b, 0, none⟩ = some (.slice (some ⟨g, 0, none⟩) l.length c)
  ptrf : w.frozen? ⟨b, 0, none⟩ = false
  cap : l.length ≤ c ∧ c ≤ maxLen
  cell : ∀ p, p < l.length → w.cell? ⟨g, p * 5, none⟩ = some (.int .i64 (sl l p).kind) ∧ w.cell? ⟨g, p * 5 + 1, none⟩ = some (.int .i64 (sl l p).idx) ∧ w.cell? ⟨g, p * 5 + 2, none⟩ = some (.int .i64 (sl l p).vk) ∧ w.cell? ⟨g, p * 5 + 3, none⟩ = some (.int .i64 (sl l p).va) ∧ w.cell? ⟨g, p * 5 + 4, none⟩ = some (.int .i64 (sl l p).vb)
  frz : ∀ j, w.frozen? ⟨g, j, none⟩ = false
  put : ∀ p, p < l.length → ∀ k x vk va vb : Int, St w0 (((((w.setCell ⟨g, p * 5, none⟩ (.int .i64 k)).setCell ⟨g, p * 5 + 1, none⟩ (.int .i64 x)).setCell ⟨g, p * 5 + 2, none⟩ (.int .i64 vk)).setCell ⟨g, p * 5 + 3, none⟩ (.int .i64 va)).setCell ⟨g, p * 5 + 4, none⟩ (.int .i64 vb)) (L.set i (rhA b (l.set p ⟨k, x, vk, va, vb⟩)))
  val : ∀ p, p < l.length → ∀ vk va vb : Int, St w0 (((w.setCell ⟨g, p * 5 + 2, none⟩ (.int .i64 vk)).setCell ⟨g, p * 5 + 3, none⟩ (.int .i64 va)).setCell ⟨g, p * 5 + 4, none⟩ (.int .i64 vb)) (L.set i (rhA b (l.set p ⟨(sl l p).kind, (sl l p).idx, vk, va, vb⟩)))
theorem rh_open {w0 w : World} {L : List Asr} {b : Nat} {l : List SlotV} (H : St w0 w L) (i : Nat) (hi : L[i]? = some (rhA b l)) (hl : 0 < l.length) : ∃ g c, RhAt w0 w L i b l g c := by
  obtain ⟨⟨a, c⟩, h⟩ := H.exSplit i hi
  have hil := (List.getElem?_eq_some_iff.1 hi).1
  unfold rhPs at h
  simp only at h
  have hb := h.blk 0 (b := b) rfl
  obtain ⟨g, rfl, hgl, hgf, hgc, _⟩ := h.store 1 (n := l.length) (a := a) (c := c) rfl hl
  refine ⟨g, c, ⟨?_, hb.frozen 0, ?_, fun p hp => ?_, hgf, fun p hp k x vk va vb => ?_, fun p hp vk va vb => ?_⟩⟩
  · have := hb.cell 0
    simpa using this
  · obtain ⟨_, ho, _⟩ := h.rd 1 (n := l.length) rfl
    exact ho.cap
  · have fg := fun j (hj : j < 5) => flat_get SlotV.cells 5 (fun _ => rfl) l p j _ (sl_get hp) hj
    have y0 := hgc (p * 5 + 0) (by omega)
    have y1 := hgc (p * 5 + 1) (by omega)
    have y2 := hgc (p * 5 + 2) (by omega)
    have y3 := hgc (p * 5 + 3) (by omega)
    have y4 := hgc (p * 5 + 4) (by omega)
    rw [show (flatSl l)[p * 5 + 0]? = _ from fg 0 (by decide)] at y0
    rw [show (flatSl l)[p * 5 + 1]? = _ from fg 1 (by decide)] at y1
    rw [show (flatSl l)[p * 5 + 2]? = _ from fg 2 (by decide)] at y2
    rw [show (flatSl l)[p * 5 + 3]? = _ from fg 3 (by decide)] at y3
    rw [show (flatSl l)[p * 5 + 4]? = _ from fg 4 (by decide)] at y4
    simp [SlotV.cells] at y0 y1 y2 y3 y4
    exact ⟨y0, y1, y2, y3, y4⟩
  · have h3 := h.store5 (i := 1) rfl hl (p * 5) (.int .i64 k) (.int .i64 x) (.int .i64 vk) (.int .i64 va) (.int .i64 vb)
    rw [flatSl_set5 l p hp] at h3
    exact St.exJoin (rhPs b (l.set p ⟨k, x, vk, va, vb⟩)) (some ⟨g, 0, none⟩, c) (L := L) i hil (by
      unfold rhPs
      rw [List.length_set]
      exact h3)
  · have h3 := h.store3 (i := 1) rfl hl (p * 5 + 2) (.int .i64 vk) (.int .i64 va) (.int .i64 vb)
    rw [show (((flatSl l).set (p * 5 + 2) (.int .i64 vk)).set (p * 5 + 2 + 1) (.int .i64 va)).set (p * 5 + 2 + 2) (.int .i64 vb) = _ from flatSl_set3 l p hp vk va vb] at h3
    exact St.exJoin (rhPs b (l.set p ⟨(sl l p).kind, (sl l p).idx, vk, va, vb⟩)) (some ⟨g, 0, none⟩, c) (L := L) i hil (by
      unfold rhPs
      rw [List.length_set]
      exact h3)

/-- A result's three cells are written; the claims behind L are let go. -/
theorem St.res3 {w0 w : World} {L T : List Asr} {k b : Nat} {cs : Array Value} {t : TypeId} (h : St w0 w (L ++ T)) (hk : T[k]? = some (blkA b cs t)) (u0 u1 u2 : Value) :
    St w0 (((w.setCell ⟨b, 0, none⟩ u0).setCell ⟨b, 1, none⟩ u1).setCell ⟨b, 2, none⟩ u2) L := by
  have hkl := (List.getElem?_eq_some_iff.1 hk).1
  have g0 : (L ++ T)[L.length + k]? = some (blkA b cs t) := by rw [List.getElem?_append_right (by omega), Nat.add_sub_cancel_left]; exact hk
  have k1 := h.write (L.length + k) g0 0 u0
  have hl : ∀ A : Asr, ((L ++ T).set (L.length + k) A)[L.length + k]? = some A := fun A => List.getElem?_set_self (by simp; omega)
  have k2 := k1.write (L.length + k) (hl _) 1 u1
  rw [List.set_set] at k2
  have k3 := k2.write (L.length + k) (hl _) 2 u2
  rw [List.set_set] at k3
  have k4 := k3.take L.length
  rw [List.set_append_right _ _ (by omega), List.take_left' rfl] at k4
  exact k4

set_option maxHeartbeats 1000000 in
theorem rh_take_no {w0 w : World} {L : List Asr} (H : St w0 w L) (b : Nat) (x : Int) (hx : ¬ (0 ≤ x ∧ x < 65536)) :
    Calls Try.prog 30 #[.pointer (some ⟨b, 0, none⟩), .int .i64 x] w (fun e w' => (∃ v, e = .returned v) ∧ St w0 w' L) := by
  have hA := H.box #[.int .i64 0, .int .i64 0, .int .i64 0] 67
  have hb := hA.blk (L.length + 0) (b := w.heap.size) (tail_get _ _ _ 0 rfl)
  have hI := ref_index x (w.alloc (.cells #[.int .i64 0, .int .i64 0, .int .i64 0] 67))
  rw [decide_eq_false hx] at hI
  have HI := Lib.hid hI
  have HA := Lib.hid hA
  have e0 := hb.cell 0
  have e1 := hb.cell 1
  have e2 := hb.cell 2
  have y0 := hb.frozen 0
  have y1 := hb.frozen 1
  have y2 := hb.frozen 2
  simp at e0 e1 e2
  have HB := Lib.hid hb
  obtain ⟨w1, hw1⟩ : ∃ w1, w1 = w.alloc (.cells #[.int .i64 0, .int .i64 0, .int .i64 0] 67) := ⟨_, rfl⟩
  clear H hA hb hI
  go_enter Try.func30, Try.ntmps30
  go_wp2_with fail
  refine (HI.out).mono ?_
  rintro e w2 ⟨rfl, rfl⟩
  clear HI
  go_wp2_with fail
  have h9 := HA.out.take L.length
  rw [List.take_left' rfl] at h9
  refine bodyPost_ret (v := .tuple #[.agg #[.int .i64 0, .int .i64 0, .int .i64 0], .bool false]) (by simp [results, Try.results30, go_sem, e0, e1, e2]) rfl ⟨⟨_, rfl⟩, h9⟩

set_option maxRecDepth 2000 in
set_option maxHeartbeats 2000000 in
theorem rh_take {w0 w : World} {L : List Asr} {b : Nat} {l : List SlotV} (H : St w0 w L) (i : Nat) (hi : L[i]? = some (rhA b l)) (hT : Tab hmO l) (hP : Pow l.length) (x : Int) (h0 : 0 ≤ x) (h1 : x < 65536) :
    Calls Try.prog 30 #[.pointer (some ⟨b, 0, none⟩), .int .i64 x] w (fun e w' => (∃ v, e = .returned v) ∧ St w0 w' (L.set i (rhA b (takeS hmO l x)))) := by
  have HIL := Lib.hid (List.getElem?_eq_some_iff.1 hi).1
  have hA := H.box #[.int .i64 0, .int .i64 0, .int .i64 0] 67
  have hi2 : (L ++ [blkA w.heap.size #[.int .i64 0, .int .i64 0, .int .i64 0] 67])[i]? = some (rhA b l) := by rw [List.getElem?_append_left HIL.out]; exact hi
  have hI := ref_index x (w.alloc (.cells #[.int .i64 0, .int .i64 0, .int .i64 0] 67))
  rw [decide_eq_true ⟨h0, h1⟩] at hI
  have HI := Lib.hid hI
  have hS := rh_seek hA i hi2 hT hP x h0 h1
  have HI2 := Lib.hid hi2
  have HPL := Lib.hid hT.pos
  have HA := Lib.hid hA
  have hlb := hP.pos.2
  have HSAME := Lib.hid (set_same L i (rhA b l) hi)
  rcases hT.find x ⟨h0, h1⟩ with ⟨D, hD, hgo, k1, k2, hf⟩ | ⟨D, q, hD, hqD, hgo, hk, hq, hf⟩
  · have hp := ps_lt hT.pos (hmO l.length x) D
    obtain ⟨p, hpe⟩ : ∃ p, ps l.length (hmO l.length x) D = p := ⟨_, rfl⟩
    rw [hpe] at hf hp
    have HTS := Lib.hid (show takeS hmO l x = l.set p tombS by unfold takeS; rw [hf, if_pos (by omega)]; rfl)
    rw [hf] at hS
    unfold seekV at hS
    rw [if_pos (by simp)] at hS
    have HS := Lib.hid hS
    have HP := Lib.hid hp
    obtain ⟨n, hn⟩ : ∃ n, l.length = n := ⟨_, rfl⟩
    have HN := Lib.hid hn
    have hpi : (p : Int) < n := by omega
    rw [hn] at hlb
    clear H hi hA hi2 hI hS hT hP hgo k1 k2 hf hpe hD hn hp
    go_enter Try.func30, Try.ntmps30
    go_wp2_with fail
    refine (HI.out).mono ?_
    rintro e w2 ⟨rfl, rfl⟩
    clear HI
    go_wp2_with fail
    refine (HS.out).mono ?_
    rintro e w3 ⟨rfl, hk3⟩
    have H3 := Lib.hid (HA.out.keep hk3); clear hk3 HS HA
    obtain ⟨g, c, ho⟩ := rh_open H3.out i HI2.out HPL.out
    obtain ⟨_, _, y2, y3, y4⟩ := ho.cell p HP.out
    have c2 := ho.ptr
    rw [HN.out] at c2
    obtain ⟨s, hs⟩ : ∃ s, sl l p = s := ⟨_, rfl⟩
    rw [hs] at y2 y3 y4
    obtain ⟨sk, sx, sa, sb, sc⟩ := s
    simp only at y2 y3 y4
    have hcap := ho.cap
    rw [HN.out] at hcap
    unfold maxLen at hcap
    clear ho hs
    go_upto_region 7 with (fail)
    have h4 := H3.out.box #[.int .i64 sa, .int .i64 sb, .int .i64 sc] 67
    rw [List.append_assoc] at h4
    have H4 := Lib.hid h4
    obtain ⟨w4, hw4⟩ : ∃ w4, w4 = w3.alloc (.cells #[.int .i64 sa, .int .i64 sb, .int .i64 sc] 67) := ⟨_, rfl⟩
    rw [← hw4] at H4 ⊢
    clear h4 y2 y3 y4 c2 hw4
    obtain ⟨bo, hbo⟩ : ∃ bo, w3.heap.size = bo := ⟨_, rfl⟩
    rw [hbo] at H4 ⊢
    clear hbo H3
    obtain ⟨g2, c2', ho⟩ := rh_open H4.out i (by rw [List.getElem?_append_left HIL.out]; rw [List.getElem?_append_left HIL.out] at HI2; exact HI2.out) HPL.out
    obtain ⟨y0, y1, y2, y3, y4⟩ := ho.cell p HP.out
    have cp := ho.ptr
    rw [HN.out] at cp
    have hcap2 := ho.cap
    rw [HN.out] at hcap2
    unfold maxLen at hcap2
    have z0 := ho.frz (p * 5)
    have z1 := ho.frz (p * 5 + 1)
    have z2 := ho.frz (p * 5 + 2)
    have z3 := ho.frz (p * 5 + 3)
    have z4 := ho.frz (p * 5 + 4)
    have h5 := ho.put p HP.out 2 0 0 0 0
    rw [List.set_append_left _ _ HIL.out, show (⟨2, 0, 0, 0, 0⟩ : SlotV) = tombS from rfl, ← HTS.out] at h5
    clear ho
    go_upto_region 8 with (fail)
    obtain ⟨w5, hw5⟩ : ∃ w5, w5 = ((((w4.setCell ⟨g2, p * 5, none⟩ (.int .i64 2)).setCell ⟨g2, p * 5 + 1, none⟩ (.int .i64 0)).setCell ⟨g2, p * 5 + 2, none⟩ (.int .i64 0)).setCell ⟨g2, p * 5 + 3, none⟩ (.int .i64 0)).setCell ⟨g2, p * 5 + 4, none⟩ (.int .i64 0) := ⟨_, rfl⟩
    rw [← hw5] at h5 ⊢
    have H5 := Lib.hid h5
    clear h5 hw5 y0 y1 y2 y3 y4 z0 z1 z2 z3 z4 cp
    have hbw := H5.out.blk (L.length + 1) (b := bo) (tail_get _ _ _ 1 (by simp))
    have u0 := hbw.cell 0
    have u1 := hbw.cell 1
    have u2 := hbw.cell 2
    have hb := H5.out.blk (L.length + 0) (b := w.heap.size) (tail_get _ _ _ 0 (by simp))
    have e0 := hb.cell 0
    have e1 := hb.cell 1
    have e2 := hb.cell 2
    have f0 := hb.frozen 0
    have f1 := hb.frozen 1
    have f2 := hb.frozen 2
    simp at e0 e1 e2 u0 u1 u2
    have HB := Lib.hid hb
    clear hb hbw
    go_wp2_with fail
    have hb5 := ((HB.out.setCell 0 (.int .i64 sa)).setCell 1 (.int .i64 sb)).setCell 2 (.int .i64 sc)
    have e0 := hb5.cell 0
    have e1 := hb5.cell 1
    have e2 := hb5.cell 2
    simp at e0 e1 e2
    have HE := Lib.hid (H5.out.res3 (k := 0) (b := w.heap.size) rfl (.int .i64 sa) (.int .i64 sb) (.int .i64 sc))
    refine bodyPost_ret (v := .tuple #[.agg #[.int .i64 sa, .int .i64 sb, .int .i64 sc], .bool true]) (by simp [results, Try.results30, go_sem, e0, e1, e2]) rfl ⟨⟨_, rfl⟩, HE.out⟩
  · have HTS := Lib.hid (show takeS hmO l x = l by unfold takeS; rw [hf, if_neg (by omega)])
    rw [hf] at hS
    unfold seekV at hS
    rw [if_neg (show ¬ (0 : Int) ≤ -1 by decide)] at hS
    have HS := Lib.hid hS
    clear H hi hA hi2 hI hS hT hP hgo hf hD hq hqD hk
    go_enter Try.func30, Try.ntmps30
    go_wp2_with fail
    refine (HI.out).mono ?_
    rintro e w2 ⟨rfl, rfl⟩
    clear HI
    go_wp2_with fail
    refine (HS.out).mono ?_
    rintro e w3 ⟨rfl, hk3⟩
    have H3 := Lib.hid (HA.out.keep hk3); clear hk3 HS HA
    have hb := H3.out.blk (L.length + 0) (b := w.heap.size) (tail_get _ _ _ 0 rfl)
    have e0 := hb.cell 0
    have e1 := hb.cell 1
    have e2 := hb.cell 2
    have f0 := hb.frozen 0
    have f1 := hb.frozen 1
    have f2 := hb.frozen 2
    simp at e0 e1 e2
    have HB := Lib.hid hb
    clear hb
    go_wp2_with fail
    have hb5 := ((HB.out.setCell 0 (.int .i64 0)).setCell 1 (.int .i64 0)).setCell 2 (.int .i64 0)
    have e0 := hb5.cell 0
    have e1 := hb5.cell 1
    have e2 := hb5.cell 2
    simp at e0 e1 e2
    have HE := Lib.hid (H3.out.res3 (k := 0) (b := w.heap.size) rfl (.int .i64 0) (.int .i64 0) (.int .i64 0))
    refine bodyPost_ret (v := .tuple #[.agg #[.int .i64 0, .int .i64 0, .int .i64 0], .bool false]) (by simp [results, Try.results30, go_sem, e0, e1, e2]) rfl ⟨⟨_, rfl⟩, ?_⟩
    rw [HTS.out, HSAME.out]
    exact HE.out
end Go.Proofs.Ytcmbbkaioopkhaa
