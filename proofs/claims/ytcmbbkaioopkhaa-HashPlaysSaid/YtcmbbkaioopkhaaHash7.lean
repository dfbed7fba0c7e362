/-
  The package hash: a value is taken away.
-/
import Derived.Test.YtcmbbkaioopkhaaHash6
namespace Go.Proofs.Ytcmbbkaioopkhaa
open Go Go.RowKit
set_option linter.unusedVariables false
set_option linter.unusedSimpArgs false

set_option maxHeartbeats 1000000 in
theorem hash_take_miss (b : Nat) (x : Int) (w : World) (hG : Calls Try.prog 36 #[.pointer (some ⟨b, 0, none⟩), .int .i64 x] (w.alloc (.cells #[.int .i64 0, .int .i64 0, .int .i64 0] 67)) (Ret (w.alloc (.cells #[.int .i64 0, .int .i64 0, .int .i64 0] 67)) (.tuple #[zV, .bool false]))) :
    Calls Try.prog 33 #[.pointer (some ⟨b, 0, none⟩), .int .i64 x] w (Ret w (.tuple #[zV, .bool false])) := by
  have HG := Lib.hid hG; clear hG
  go_enter Try.func33, Try.ntmps33
  go_wp2_with fail
  refine (HG.out).mono ?_
  rintro e w1 ⟨rfl, hk1⟩
  unfold zV
  have hb := (zero_res hk1).alloc (.cells #[.int .i64 0, .int .i64 0, .int .i64 0] 67)
  have hx := Blk.new w1 #[.int .i64 0, .int .i64 0, .int .i64 0] 67
  have HKK := Lib.hid (show Keep w (w1.alloc (.cells #[.int .i64 0, .int .i64 0, .int .i64 0] 67)) Nope from (((Keep.refl w Nope).alloc _).trans hk1 (fun _ f => f.elim)).alloc _)
  have HBB := Lib.hid hb
  have HX := Lib.hid hx
  clear hk1 hb hx
  go_upto_region 2 with (fail)
  obtain ⟨w2, hw2⟩ : ∃ w2, w2 = w1.alloc (.cells #[.int .i64 0, .int .i64 0, .int .i64 0] 67) := ⟨_, rfl⟩
  rw [← hw2] at HBB HX HKK ⊢
  clear hw2
  have z0 := HBB.out.cell 0
  have z1 := HBB.out.cell 1
  have z2 := HBB.out.cell 2
  have y0 := HBB.out.frozen 0
  have y1 := HBB.out.frozen 1
  have y2 := HBB.out.frozen 2
  have x0 := HX.out.cell 0
  have x1 := HX.out.cell 1
  have x2 := HX.out.cell 2
  simp at z0 z1 z2 x0 x1 x2
  go_wp2_with fail
  have hb5 := ((HBB.out.setCell 0 (.int .i64 0)).setCell 1 (.int .i64 0)).setCell 2 (.int .i64 0)
  have e0 := hb5.cell 0
  have e1 := hb5.cell 1
  have e2 := hb5.cell 2
  simp at e0 e1 e2
  have HE := Lib.hid (keep3 HKK.out (.int .i64 0) (.int .i64 0) (.int .i64 0))
  clear hb5 z0 z1 z2 y0 y1 y2 x0 x1 x2
  refine bodyPost_ret (v := .tuple #[.agg #[.int .i64 0, .int .i64 0, .int .i64 0], .bool false]) (by simp [results, Try.results33, go_sem, e0, e1, e2]) rfl ⟨rfl, HE.out⟩

set_option maxRecDepth 2000 in
set_option maxHeartbeats 2000000 in
theorem hash_take_yes {w0 w : World} {L : List Asr} {b : Nat} {l : List SlotV} (H : St w0 w L) (i : Nat) (hi : L[i]? = some (hashA b l)) (hT : Tab hmO l) (hP : Pow l.length) (x : Int) (h0 : 0 ≤ x) (h1 : x < 65536) (p : Nat) (hp : p < l.length) (hf : findS hmO l x = ((p : Int), -1)) (hk1 : (sl l p).kind = 1) :
    Calls Try.prog 33 #[.pointer (some ⟨b, 0, none⟩), .int .i64 x] w (fun e w' => e = .returned (.tuple #[(sl l p).val, .bool true]) ∧ St w0 w' (L.set i (hashA b (l.set p tombS)))) := by
  have HIL := Lib.hid (List.getElem?_eq_some_iff.1 hi).1
  have hA := H.box #[.int .i64 0, .int .i64 0, .int .i64 0] 67
  have hi2 : (L ++ [blkA w.heap.size #[.int .i64 0, .int .i64 0, .int .i64 0] 67])[i]? = some (hashA b l) := by rw [List.getElem?_append_left HIL.out]; exact hi
  have HG := Lib.hid (hash_get_yes hA i hi2 hT hP x h0 h1 p hp hf)
  obtain ⟨s, hs⟩ : ∃ s, sl l p = s := ⟨_, rfl⟩
  have HC := Lib.hid (fun (w9 : World) (M : List Asr) (h9 : St w0 w9 (L ++ M)) => (show Calls Try.prog 47 #[.pointer (some ⟨b, 0, none⟩), .int .i64 x] w9 (Ret w9 (.tuple #[.int .i64 (p : Int), .int .i64 (-1)])) from by
    have hC := hash_find h9 i (by rw [List.getElem?_append_left HIL.out]; exact hi) hT hP x h0 h1
    rw [hf] at hC
    exact hC))
  have k1 := cntK_set 1 tombS l p hp
  have k2 := cntK_set 2 tombS l p hp
  rw [hk1] at k1 k2
  simp [tombS] at k1 k2
  have hcl := cntK_le 1 l
  have hcl2 := cntK_le 2 l
  have hset := flatSl_set5 l p hp 2 0 0 0 0
  have HSET := Lib.hid hset
  have HI := Lib.hid hi
  rw [hs] at HG ⊢
  have HS := Lib.hid hs
  obtain ⟨n, hn⟩ : ∃ n, l.length = n := ⟨_, rfl⟩
  obtain ⟨cf, hcf⟩ : ∃ cf, cntK 1 l = cf := ⟨_, rfl⟩
  obtain ⟨ct, hct⟩ : ∃ ct, cntK 2 l = ct := ⟨_, rfl⟩
  rw [hcf] at k1 hcl
  rw [hct] at k2 hcl2
  have HK1 := Lib.hid k1
  have HK2 := Lib.hid k2
  have HN := Lib.hid hn
  have HCF := Lib.hid hcf
  have HCT := Lib.hid hct
  have HPL := Lib.hid hp
  have hnb := hP.pos.2
  rw [hn] at hcl hcl2 hnb hp
  have HA := Lib.hid hA
  have hcf1 : 1 ≤ cf := by omega
  clear H hi hA hi2 hT hP hf hk1 hs k1 k2 hset hn hcf hct
  obtain ⟨sk, sx, sa, sb, sc⟩ := s
  simp only [SlotV.val] at HG ⊢
  go_enter Try.func33, Try.ntmps33
  go_wp2_with fail
  refine (HG.out).mono ?_
  rintro e w1 ⟨rfl, hk⟩
  have h2 := (HA.out.keep hk).box #[.int .i64 sa, .int .i64 sb, .int .i64 sc] 67
  rw [List.append_assoc] at h2
  have H2 := Lib.hid h2
  clear h2 hk HA HG
  go_wp2_with fail
  refine (HC.out _ _ H2.out).mono ?_
  rintro e w3 ⟨rfl, hk⟩
  obtain ⟨⟨a, c⟩, h3⟩ := (H2.out.keep hk).exSplit i (by rw [List.getElem?_append_left HIL.out]; exact HI.out)
  rw [List.set_append_left _ _ HIL.out, ← List.append_assoc] at h3
  unfold hashPs at h3
  rw [HN.out, HCF.out, HCT.out] at h3
  have H3 := Lib.hid (show St w0 w3 ((blkA b #[.int .i64 cf, .int .i64 ct, .slice a n c] 92 :: slA 79 5 (.slice a n c) n (flatSl l) :: L.set i empA) ++ [blkA w.heap.size #[.int .i64 0, .int .i64 0, .int .i64 0] 67, blkA w1.heap.size #[.int .i64 sa, .int .i64 sb, .int .i64 sc] 67]) from h3)
  clear h3 hk H2 HC HI
  have c2 := (H3.out.blk 0 (b := b) rfl).cell 2
  simp at c2
  obtain ⟨g, rfl, hgl, hgf, hgc, _⟩ := H3.out.store 1 (n := n) (a := a) (c := c) rfl (by omega)
  have fg := fun j (hj : j < 5) => flat_get SlotV.cells 5 (fun _ => rfl) l p j _ (sl_get HPL.out) hj
  have y0 := hgc (p * 5 + 0) (by omega)
  have y1 := hgc (p * 5 + 1) (by omega)
  have y2 := hgc (p * 5 + 2) (by omega)
  have y3 := hgc (p * 5 + 3) (by omega)
  have y4 := hgc (p * 5 + 4) (by omega)
  rw [show (flatSl l)[p * 5 + 0]? = _ from fg 0 (by decide)] at y0
  rw [show (flatSl l)[p * 5 + 1]? = _ from fg 1 (by decide)] at y1
  rw [show (flatSl l)[p * 5 + 2]? = _ from fg 2 (by decide)] at y2
  rw [show (flatSl l)[p * 5 + 3]? = _ from fg 3 (by decide)] at y3
  rw [show (flatSl l)[p * 5 + 4]? = _ from fg 4 (by decide)] at y4
  simp [SlotV.cells] at y0 y1 y2 y3 y4
  have z0 := hgf (p * 5)
  have z1 := hgf (p * 5 + 1)
  have z2 := hgf (p * 5 + 2)
  have z3 := hgf (p * 5 + 3)
  have z4 := hgf (p * 5 + 4)
  have hpi : (p : Int) < n := by omega
  have hcap : n ≤ c ∧ c ≤ maxLen := by obtain ⟨_, ho, _⟩ := H3.out.rd 1 (n := n) rfl; exact ho.cap
  unfold maxLen at hcap
  clear hgf hgc fg hgl
  go_upto_region 5 with (fail)
  have h4 := H3.out.store5 (i := 1) rfl (by omega) (p * 5) (.int .i64 2) (.int .i64 0) (.int .i64 0) (.int .i64 0) (.int .i64 0)
  rw [HSET.out] at h4
  obtain ⟨w4, hw4⟩ : ∃ w4, w4 = ((((w3.setCell ⟨g, p * 5, none⟩ (.int .i64 2)).setCell ⟨g, p * 5 + 1, none⟩ (.int .i64 0)).setCell ⟨g, p * 5 + 2, none⟩ (.int .i64 0)).setCell ⟨g, p * 5 + 3, none⟩ (.int .i64 0)).setCell ⟨g, p * 5 + 4, none⟩ (.int .i64 0) := ⟨_, rfl⟩
  rw [← hw4] at h4 ⊢
  have H4 := Lib.hid (show St w0 w4 ((blkA b #[.int .i64 cf, .int .i64 ct, .slice (some ⟨g, 0, none⟩) n c] 92 :: slA 79 5 (.slice (some ⟨g, 0, none⟩) n c) n (flatSl (l.set p tombS)) :: L.set i empA) ++ [blkA w.heap.size #[.int .i64 0, .int .i64 0, .int .i64 0] 67, blkA w1.heap.size #[.int .i64 sa, .int .i64 sb, .int .i64 sc] 67]) from h4)
  clear h4 hw4 H3 y0 y1 y2 y3 y4 z0 z1 z2 z3 z4 c2
  have c0 := (H4.out.blk 0 (b := b) rfl).cell 0
  have c1 := (H4.out.blk 0 (b := b) rfl).cell 1
  have f0 := (H4.out.blk 0 (b := b) rfl).frozen 0
  have f1 := (H4.out.blk 0 (b := b) rfl).frozen 1
  simp at c0 c1
  go_upto_region 7 with (fail)
  have h5 := (H4.out.write 0 (b := b) rfl 0 (.int .i64 ((cf : Int) - 1))).write 0 (b := b) rfl 1 (.int .i64 ((ct : Int) + 1))
  obtain ⟨w5, hw5⟩ : ∃ w5, w5 = (w4.setCell ⟨b, 0, none⟩ (.int .i64 ((cf : Int) - 1))).setCell ⟨b, 1, none⟩ (.int .i64 ((ct : Int) + 1)) := ⟨_, rfl⟩
  rw [← hw5] at h5 ⊢
  have H5 := Lib.hid (show St w0 w5 ((blkA b #[.int .i64 ((cf : Int) - 1), .int .i64 ((ct : Int) + 1), .slice (some ⟨g, 0, none⟩) n c] 92 :: slA 79 5 (.slice (some ⟨g, 0, none⟩) n c) n (flatSl (l.set p tombS)) :: L.set i empA) ++ [blkA w.heap.size #[.int .i64 0, .int .i64 0, .int .i64 0] 67, blkA w1.heap.size #[.int .i64 sa, .int .i64 sb, .int .i64 sc] 67]) from h5)
  clear h5 hw5 H4 c0 c1 f0 f1
  have hbw := H5.out.blk (2 + L.length + 1) (b := w1.heap.size) (tail_get _ _ _ 1 (by simp; omega))
  have u0 := hbw.cell 0
  have u1 := hbw.cell 1
  have u2 := hbw.cell 2
  have hb := H5.out.blk (2 + L.length + 0) (b := w.heap.size) (tail_get _ _ _ 0 (by simp; omega))
  have e0 := hb.cell 0
  have e1 := hb.cell 1
  have e2 := hb.cell 2
  have y0 := hb.frozen 0
  have y1 := hb.frozen 1
  have y2 := hb.frozen 2
  simp at e0 e1 e2 u0 u1 u2
  have HB := Lib.hid hb
  clear hb hbw
  go_wp2_with fail
  have hb5 := ((HB.out.setCell 0 (.int .i64 sa)).setCell 1 (.int .i64 sb)).setCell 2 (.int .i64 sc)
  have e0 := hb5.cell 0
  have e1 := hb5.cell 1
  have e2 := hb5.cell 2
  simp at e0 e1 e2
  have k1 := H5.out.write (2 + L.length + 0) (b := w.heap.size) (tail_get _ _ _ 0 (by simp; omega)) 0 (.int .i64 sa)
  rw [tail_set _ _ _ 0 _ (by simp; omega)] at k1
  have k2 := k1.write (2 + L.length + 0) (b := w.heap.size) (tail_get _ _ _ 0 (by simp; omega)) 1 (.int .i64 sb)
  rw [tail_set _ _ _ 0 _ (by simp; omega)] at k2
  have k3 := k2.write (2 + L.length + 0) (b := w.heap.size) (tail_get _ _ _ 0 (by simp; omega)) 2 (.int .i64 sc)
  rw [tail_set _ _ _ 0 _ (by simp; omega)] at k3
  have k4 := k3.take (2 + L.length)
  rw [List.take_left' (by simp; omega)] at k4
  have c1 : ((cntK 1 (l.set p tombS) : Nat) : Int) = (cf : Int) - 1 := by have := HK1.out; unfold tombS; omega
  have c2 : ((cntK 2 (l.set p tombS) : Nat) : Int) = (ct : Int) + 1 := by have := HK2.out; unfold tombS; omega
  have k5 := St.exJoin (hashPs b (l.set p tombS)) (some ⟨g, 0, none⟩, c) (L := L) i HIL.out (by
    unfold hashPs
    rw [c1, c2, List.length_set, HN.out]
    exact k4)
  have HE := Lib.hid k5
  clear hb5 k1 k2 k3 k4 k5 y0 y1 y2 u0 u1 u2 c1 c2
  refine bodyPost_ret (v := .tuple #[.agg #[.int .i64 sa, .int .i64 sb, .int .i64 sc], .bool true]) (by simp [results, Try.results33, go_sem, e0, e1, e2]) rfl ⟨rfl, HE.out⟩
end Go.Proofs.Ytcmbbkaioopkhaa
