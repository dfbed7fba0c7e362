/-
  HashPlays: a call of both answers alike.
-/
import Derived.Test.YtcmbbkaioopkhaaHashPl2
namespace Go.Proofs.Ytcmbbkaioopkhaa
open Go Go.RowKit
set_option linter.unusedVariables false
set_option linter.unusedSimpArgs false

def stepS (l : List SlotV) (o : SlotV) : List SlotV :=
  if o.kind = 0 then (if okI o.idx then putS hmO l o.idx o.vk o.va o.vb else l) else if o.kind = 1 then (if okI o.idx then takeS hmO l o.idx else l) else l

/-- The claims of a call of both. -/
def doT (bo : Nat) (o : SlotV) (ba : Nat) (a : Array Value) (bb : Nat) (b : Array Value) : List Asr :=
  [blkA bo #[.int .i64 o.kind, .int .i64 o.idx, .int .i64 o.vk, .int .i64 o.va, .int .i64 o.vb] 69, blkA ba a 67, blkA bb b 67]
theorem doT_set3 {w0 w : World} {L : List Asr} {bo ba bb : Nat} {o : SlotV} {a b : Array Value} (h : St w0 w (L ++ doT bo o ba a bb b)) (k : Nat) (B : Nat) (cs : Array Value) (hk : (doT bo o ba a bb b)[k]? = some (blkA B cs 67)) (u0 u1 u2 : Value) :
    St w0 (((w.setCell ⟨B, 0, none⟩ u0).setCell ⟨B, 1, none⟩ u1).setCell ⟨B, 2, none⟩ u2) (L ++ (doT bo o ba a bb b).set k (blkA B (((cs.setIfInBounds 0 u0).setIfInBounds 1 u1).setIfInBounds 2 u2) 67)) := by
  have hkl := (List.getElem?_eq_some_iff.1 hk).1
  have g0 : (L ++ doT bo o ba a bb b)[L.length + k]? = some (blkA B cs 67) := by rw [List.getElem?_append_right (by omega), Nat.add_sub_cancel_left]; exact hk
  have k1 := h.write (L.length + k) g0 0 u0
  have hl : ∀ A : Asr, ((L ++ doT bo o ba a bb b).set (L.length + k) A)[L.length + k]? = some A := fun A => List.getElem?_set_self (by simp; omega)
  have k2 := k1.write (L.length + k) (hl _) 1 u1
  rw [List.set_set] at k2
  have k3 := k2.write (L.length + k) (hl _) 2 u2
  rw [List.set_set] at k3
  rw [List.set_append_right _ _ (by omega), Nat.add_sub_cancel_left] at k3
  exact k3

set_option maxRecDepth 3000 in
set_option maxHeartbeats 4000000 in
theorem do9 {w0 w : World} {bd bt bw : Nat} {l : List SlotV} {rows : List RowT} {C : Nat} (H : St w0 w [hashA bd l, tabA bt rows, rhA bw l]) (hI : HInv l C) (hC : C ≤ 60000) (hR : TRel l rows) (o : SlotV) :
    ∃ rows', HInv (stepS l o) (C + 1) ∧ TRel (stepS l o) rows' ∧
    Calls Try.prog 28 #[.pointer (some ⟨bd, 0, none⟩), .pointer (some ⟨bt, 0, none⟩), .agg #[.int .i64 o.kind, .int .i64 o.idx, .int .i64 o.vk, .int .i64 o.va, .int .i64 o.vb]] w (fun e w' => e = .returned (.bool true) ∧ St w0 w' [hashA bd (stepS l o), tabA bt rows', rhA bw l]) := by
  have hA := ((H.box #[.int .i64 o.kind, .int .i64 o.idx, .int .i64 o.vk, .int .i64 o.va, .int .i64 o.vb] 69).box #[.int .i64 0, .int .i64 0, .int .i64 0] 67).box #[.int .i64 0, .int .i64 0, .int .i64 0] 67
  simp only [World.size_alloc] at hA
  have hA2 := (show St w0 _ ([hashA bd l, tabA bt rows, rhA bw l] ++ doT w.heap.size o (w.heap.size + 1) #[.int .i64 0, .int .i64 0, .int .i64 0] (w.heap.size + 1 + 1) #[.int .i64 0, .int .i64 0, .int .i64 0]) from hA)
  obtain ⟨l', hl'⟩ : ∃ l', stepS l o = l' := ⟨_, rfl⟩
  have HLE := Lib.hid hl'
  rw [hl']
  obtain ⟨kind, x, vk, va, vb⟩ := o
  have hst : stepS l ⟨kind, x, vk, va, vb⟩ = if kind = 0 then (if okI x then putS hmO l x vk va vb else l) else if kind = 1 then (if okI x then takeS hmO l x else l) else l := rfl
  rw [hst] at hl'
  clear hst HLE
  simp only
  have HA := Lib.hid hA2
  have hb0 := hA2.blk 3 (b := w.heap.size) rfl
  have o0 := hb0.cell 0
  have o1 := hb0.cell 1
  have o2 := hb0.cell 2
  have o3 := hb0.cell 3
  have o4 := hb0.cell 4
  simp at o0 o1 o2 o3 o4
  have hd0 : ([hashA bd l, tabA bt rows, rhA bw l] ++ doT w.heap.size ⟨kind, x, vk, va, vb⟩ (w.heap.size + 1) #[.int .i64 0, .int .i64 0, .int .i64 0] (w.heap.size + 1 + 1) #[.int .i64 0, .int .i64 0, .int .i64 0])[0]? = some (hashA bd l) := rfl
  by_cases hk0 : kind = 0
  · subst hk0
    rw [if_pos rfl] at hl'
    obtain ⟨rows', a, b, c, had, hI', hR', hC1, hC2⟩ := (both_put (bt := bt) (rows := rows) hA2 0 hd0 hI hC hR x vk va vb).ex
    rw [hl'] at hI' hR' hC1
    refine ⟨rows', hI', hR', ?_⟩
    have HC1 := Lib.hid (show Calls Try.prog 32 #[.pointer (some ⟨bd, 0, none⟩), .int .i64 x, .agg #[.int .i64 vk, .int .i64 va, .int .i64 vb]] _ (fun e w' => e = .returned (.tuple #[agg3 a b c, .bool had]) ∧ St w0 w' ([hashA bd l', tabA bt rows, rhA bw l] ++ doT w.heap.size ⟨0, x, vk, va, vb⟩ (w.heap.size + 1) #[.int .i64 0, .int .i64 0, .int .i64 0] (w.heap.size + 1 + 1) #[.int .i64 0, .int .i64 0, .int .i64 0])) from hC1)
    have HC2 := Lib.hid (fun (w2 : World) (L2 : List Asr) (k : Nat) (h2 : St w0 w2 L2) (hk : L2[k]? = some (tabA bt rows)) => (show Calls Try.prog 42 #[.pointer (some ⟨bt, 0, none⟩), .int .i64 x, .agg #[.int .i64 vk, .int .i64 va, .int .i64 vb]] w2 (fun e w' => e = .returned (.tuple #[agg3 a b c, .bool had]) ∧ St w0 w' (L2.set k (tabA bt rows'))) from hC2 w2 L2 k h2 hk))
    have HCN := Lib.hid hR'.cnt
    unfold agg3 at HC1 HC2
    clear hA hA2 H hd0 hb0 hI hR hI' hR' hC1 hC2 hl' HA
    go_enter Try.func28, Try.ntmps28
    go_wp2_with fail
    refine (HC1.out).mono ?_
    rintro e w3 ⟨rfl, hst⟩
    have H3 := Lib.hid hst
    clear hst HC1 o0 o1 o2 o3 o4
    have hba := H3.out.blk 4 (b := w.heap.size + 1) rfl
    have a0 := hba.cell 0
    have a1 := hba.cell 1
    have a2 := hba.cell 2
    have f0 := hba.frozen 0
    have f1 := hba.frozen 1
    have f2 := hba.frozen 2
    simp at a0 a1 a2
    clear hba
    go_upto_region 8 with (fail)
    have h4 := doT_set3 H3.out 1 (w.heap.size + 1) _ rfl (.int .i64 a) (.int .i64 b) (.int .i64 c)
    obtain ⟨w4, hw4⟩ : ∃ w4, w4 = ((w3.setCell ⟨w.heap.size + 1, 0, none⟩ (.int .i64 a)).setCell ⟨w.heap.size + 1, 1, none⟩ (.int .i64 b)).setCell ⟨w.heap.size + 1, 2, none⟩ (.int .i64 c) := ⟨_, rfl⟩
    rw [← hw4] at h4 ⊢
    have H4 := Lib.hid (show St w0 w4 ([hashA bd l', tabA bt rows, rhA bw l] ++ doT w.heap.size ⟨0, x, vk, va, vb⟩ (w.heap.size + 1) #[.int .i64 a, .int .i64 b, .int .i64 c] (w.heap.size + 1 + 1) #[.int .i64 0, .int .i64 0, .int .i64 0]) from h4)
    clear h4 hw4 H3 a0 a1 a2 f0 f1 f2
    have hb0 := H4.out.blk 3 (b := w.heap.size) rfl
    have o0 := hb0.cell 0
    have o1 := hb0.cell 1
    have o2 := hb0.cell 2
    have o3 := hb0.cell 3
    have o4 := hb0.cell 4
    simp at o0 o1 o2 o3 o4
    clear hb0
    go_wp2_with fail
    refine (HC2.out w4 _ 1 H4.out rfl).mono ?_
    rintro e w5 ⟨rfl, hst⟩
    have H5 := Lib.hid (show St w0 w5 ([hashA bd l', tabA bt rows', rhA bw l] ++ doT w.heap.size ⟨0, x, vk, va, vb⟩ (w.heap.size + 1) #[.int .i64 a, .int .i64 b, .int .i64 c] (w.heap.size + 1 + 1) #[.int .i64 0, .int .i64 0, .int .i64 0]) from hst)
    clear hst HC2 H4 o0 o1 o2 o3 o4
    have hbb := H5.out.blk 5 (b := w.heap.size + 1 + 1) rfl
    have a0 := hbb.cell 0
    have a1 := hbb.cell 1
    have a2 := hbb.cell 2
    have f0 := hbb.frozen 0
    have f1 := hbb.frozen 1
    have f2 := hbb.frozen 2
    simp at a0 a1 a2
    clear hbb
    go_upto_region 12 with (fail)
    have h6 := doT_set3 H5.out 2 (w.heap.size + 1 + 1) _ rfl (.int .i64 a) (.int .i64 b) (.int .i64 c)
    obtain ⟨w6, hw6⟩ : ∃ w6, w6 = ((w5.setCell ⟨w.heap.size + 1 + 1, 0, none⟩ (.int .i64 a)).setCell ⟨w.heap.size + 1 + 1, 1, none⟩ (.int .i64 b)).setCell ⟨w.heap.size + 1 + 1, 2, none⟩ (.int .i64 c) := ⟨_, rfl⟩
    rw [← hw6] at h6 ⊢
    have H6 := Lib.hid (show St w0 w6 ([hashA bd l', tabA bt rows', rhA bw l] ++ doT w.heap.size ⟨0, x, vk, va, vb⟩ (w.heap.size + 1) #[.int .i64 a, .int .i64 b, .int .i64 c] (w.heap.size + 1 + 1) #[.int .i64 a, .int .i64 b, .int .i64 c]) from h6)
    clear h6 hw6 H5 a0 a1 a2 f0 f1 f2
    have hba := H6.out.blk 4 (b := w.heap.size + 1) rfl
    have hbb := H6.out.blk 5 (b := w.heap.size + 1 + 1) rfl
    have a0 := hba.cell 0
    have a1 := hba.cell 1
    have a2 := hba.cell 2
    have b0 := hbb.cell 0
    have b1 := hbb.cell 1
    have b2 := hbb.cell 2
    simp at a0 a1 a2 b0 b1 b2
    obtain ⟨at', ct, cp, _⟩ := tab_ptr H6.out 1 (b := bt) (l := rows') rfl
    obtain ⟨n, hn⟩ : ∃ n, rows'.length = n := ⟨_, rfl⟩
    have HL := Lib.hid (fun m => hash_len (H6.out.drewN m) 0 (b := bd) (l := l') rfl)
    rw [HCN.out, hn] at HL
    rw [hn] at cp
    clear hba hbb hn
    go_quiet ((go_at_call 35; exact Calls.quiet_of_same ((HL.out _).mono (fun _ _ h => ⟨h.1, h.2.symm⟩))))
    go_wp2_with fail
    go_ret
    exact ⟨rfl, (H6.out.drewN _).take 3⟩
  · by_cases hk1 : kind = 1
    · subst hk1
      rw [if_neg (show ¬ (1 : Int) = 0 by decide), if_pos rfl] at hl'
      have e10 : ((1 : Int) == 0) = false := by decide
      obtain ⟨rows', a, b, c, had, hI', hR', hC1, hC2⟩ := (both_take (bt := bt) (rows := rows) hA2 0 hd0 hI hC hR x).ex
      rw [hl'] at hI' hR' hC1
      refine ⟨rows', hI', hR', ?_⟩
      have HC1 := Lib.hid (show Calls Try.prog 33 #[.pointer (some ⟨bd, 0, none⟩), .int .i64 x] _ (fun e w' => e = .returned (.tuple #[agg3 a b c, .bool had]) ∧ St w0 w' ([hashA bd l', tabA bt rows, rhA bw l] ++ doT w.heap.size ⟨1, x, vk, va, vb⟩ (w.heap.size + 1) #[.int .i64 0, .int .i64 0, .int .i64 0] (w.heap.size + 1 + 1) #[.int .i64 0, .int .i64 0, .int .i64 0])) from hC1)
      have HC2 := Lib.hid (fun (w2 : World) (L2 : List Asr) (k : Nat) (h2 : St w0 w2 L2) (hk : L2[k]? = some (tabA bt rows)) => (show Calls Try.prog 43 #[.pointer (some ⟨bt, 0, none⟩), .int .i64 x] w2 (fun e w' => e = .returned (.tuple #[agg3 a b c, .bool had]) ∧ St w0 w' (L2.set k (tabA bt rows'))) from hC2 w2 L2 k h2 hk))
      have HCN := Lib.hid hR'.cnt
      unfold agg3 at HC1 HC2
      clear hA hA2 H hd0 hb0 hI hR hI' hR' hC1 hC2 hl' HA
      go_enter Try.func28, Try.ntmps28
      go_wp2_with fail
      refine (HC1.out).mono ?_
      rintro e w3 ⟨rfl, hst⟩
      have H3 := Lib.hid hst
      clear hst HC1 o0 o1 o2 o3 o4
      have hba := H3.out.blk 4 (b := w.heap.size + 1) rfl
      have a0 := hba.cell 0
      have a1 := hba.cell 1
      have a2 := hba.cell 2
      have f0 := hba.frozen 0
      have f1 := hba.frozen 1
      have f2 := hba.frozen 2
      simp at a0 a1 a2
      clear hba
      go_upto_region 11 with (fail)
      have h4 := doT_set3 H3.out 1 (w.heap.size + 1) _ rfl (.int .i64 a) (.int .i64 b) (.int .i64 c)
      obtain ⟨w4, hw4⟩ : ∃ w4, w4 = ((w3.setCell ⟨w.heap.size + 1, 0, none⟩ (.int .i64 a)).setCell ⟨w.heap.size + 1, 1, none⟩ (.int .i64 b)).setCell ⟨w.heap.size + 1, 2, none⟩ (.int .i64 c) := ⟨_, rfl⟩
      rw [← hw4] at h4 ⊢
      have H4 := Lib.hid (show St w0 w4 ([hashA bd l', tabA bt rows, rhA bw l] ++ doT w.heap.size ⟨1, x, vk, va, vb⟩ (w.heap.size + 1) #[.int .i64 a, .int .i64 b, .int .i64 c] (w.heap.size + 1 + 1) #[.int .i64 0, .int .i64 0, .int .i64 0]) from h4)
      clear h4 hw4 H3 a0 a1 a2 f0 f1 f2
      have hb0 := H4.out.blk 3 (b := w.heap.size) rfl
      have o0 := hb0.cell 0
      have o1 := hb0.cell 1
      have o2 := hb0.cell 2
      have o3 := hb0.cell 3
      have o4 := hb0.cell 4
      simp at o0 o1 o2 o3 o4
      clear hb0
      go_wp2_with fail
      refine (HC2.out w4 _ 1 H4.out rfl).mono ?_
      rintro e w5 ⟨rfl, hst⟩
      have H5 := Lib.hid (show St w0 w5 ([hashA bd l', tabA bt rows', rhA bw l] ++ doT w.heap.size ⟨1, x, vk, va, vb⟩ (w.heap.size + 1) #[.int .i64 a, .int .i64 b, .int .i64 c] (w.heap.size + 1 + 1) #[.int .i64 0, .int .i64 0, .int .i64 0]) from hst)
      clear hst HC2 H4 o0 o1 o2 o3 o4
      have hbb := H5.out.blk 5 (b := w.heap.size + 1 + 1) rfl
      have a0 := hbb.cell 0
      have a1 := hbb.cell 1
      have a2 := hbb.cell 2
      have f0 := hbb.frozen 0
      have f1 := hbb.frozen 1
      have f2 := hbb.frozen 2
      simp at a0 a1 a2
      clear hbb
      go_upto_region 12 with (fail)
      have h6 := doT_set3 H5.out 2 (w.heap.size + 1 + 1) _ rfl (.int .i64 a) (.int .i64 b) (.int .i64 c)
      obtain ⟨w6, hw6⟩ : ∃ w6, w6 = ((w5.setCell ⟨w.heap.size + 1 + 1, 0, none⟩ (.int .i64 a)).setCell ⟨w.heap.size + 1 + 1, 1, none⟩ (.int .i64 b)).setCell ⟨w.heap.size + 1 + 1, 2, none⟩ (.int .i64 c) := ⟨_, rfl⟩
      rw [← hw6] at h6 ⊢
      have H6 := Lib.hid (show St w0 w6 ([hashA bd l', tabA bt rows', rhA bw l] ++ doT w.heap.size ⟨1, x, vk, va, vb⟩ (w.heap.size + 1) #[.int .i64 a, .int .i64 b, .int .i64 c] (w.heap.size + 1 + 1) #[.int .i64 a, .int .i64 b, .int .i64 c]) from h6)
      clear h6 hw6 H5 a0 a1 a2 f0 f1 f2
      have hba := H6.out.blk 4 (b := w.heap.size + 1) rfl
      have hbb := H6.out.blk 5 (b := w.heap.size + 1 + 1) rfl
      have a0 := hba.cell 0
      have a1 := hba.cell 1
      have a2 := hba.cell 2
      have b0 := hbb.cell 0
      have b1 := hbb.cell 1
      have b2 := hbb.cell 2
      simp at a0 a1 a2 b0 b1 b2
      obtain ⟨at', ct, cp, _⟩ := tab_ptr H6.out 1 (b := bt) (l := rows') rfl
      obtain ⟨n, hn⟩ : ∃ n, rows'.length = n := ⟨_, rfl⟩
      have HL := Lib.hid (fun m => hash_len (H6.out.drewN m) 0 (b := bd) (l := l') rfl)
      rw [HCN.out, hn] at HL
      rw [hn] at cp
      clear hba hbb hn
      go_quiet ((go_at_call 35; exact Calls.quiet_of_same ((HL.out _).mono (fun _ _ h => ⟨h.1, h.2.symm⟩))))
      go_wp2_with fail
      go_ret
      exact ⟨rfl, (H6.out.drewN _).take 3⟩
    · rw [if_neg hk0, if_neg hk1] at hl'
      have e10 : (kind == 0) = false := beq_eq_false_iff_ne.2 hk0
      have e11 : (kind == 1) = false := beq_eq_false_iff_ne.2 hk1
      subst hl'
      obtain ⟨rows', a, b, c, had, hI', hR', hC1, hC2⟩ := (both_get (bt := bt) (rows := rows) hA2 0 hd0 hI hR x).ex
      skip
      refine ⟨rows', hI', hR', ?_⟩
      have HC1 := Lib.hid (show Calls Try.prog 36 #[.pointer (some ⟨bd, 0, none⟩), .int .i64 x] _ (fun e w' => e = .returned (.tuple #[agg3 a b c, .bool had]) ∧ St w0 w' ([hashA bd l, tabA bt rows, rhA bw l] ++ doT w.heap.size ⟨kind, x, vk, va, vb⟩ (w.heap.size + 1) #[.int .i64 0, .int .i64 0, .int .i64 0] (w.heap.size + 1 + 1) #[.int .i64 0, .int .i64 0, .int .i64 0])) from hC1)
      have HC2 := Lib.hid (fun (w2 : World) (L2 : List Asr) (k : Nat) (h2 : St w0 w2 L2) (hk : L2[k]? = some (tabA bt rows)) => (show Calls Try.prog 44 #[.pointer (some ⟨bt, 0, none⟩), .int .i64 x] w2 (fun e w' => e = .returned (.tuple #[agg3 a b c, .bool had]) ∧ St w0 w' (L2.set k (tabA bt rows'))) from hC2 w2 L2 k h2 hk))
      have HCN := Lib.hid hR'.cnt
      unfold agg3 at HC1 HC2
      clear hA hA2 H hd0 hb0 hI hR hI' hR' hC1 hC2 HA
      go_enter Try.func28, Try.ntmps28
      go_wp2_with fail
      refine (HC1.out).mono ?_
      rintro e w3 ⟨rfl, hst⟩
      have H3 := Lib.hid hst
      clear hst HC1 o0 o1 o2 o3 o4
      have hba := H3.out.blk 4 (b := w.heap.size + 1) rfl
      have a0 := hba.cell 0
      have a1 := hba.cell 1
      have a2 := hba.cell 2
      have f0 := hba.frozen 0
      have f1 := hba.frozen 1
      have f2 := hba.frozen 2
      simp at a0 a1 a2
      clear hba
      go_upto_region 5 with (fail)
      have h4 := doT_set3 H3.out 1 (w.heap.size + 1) _ rfl (.int .i64 a) (.int .i64 b) (.int .i64 c)
      obtain ⟨w4, hw4⟩ : ∃ w4, w4 = ((w3.setCell ⟨w.heap.size + 1, 0, none⟩ (.int .i64 a)).setCell ⟨w.heap.size + 1, 1, none⟩ (.int .i64 b)).setCell ⟨w.heap.size + 1, 2, none⟩ (.int .i64 c) := ⟨_, rfl⟩
      rw [← hw4] at h4 ⊢
      have H4 := Lib.hid (show St w0 w4 ([hashA bd l, tabA bt rows, rhA bw l] ++ doT w.heap.size ⟨kind, x, vk, va, vb⟩ (w.heap.size + 1) #[.int .i64 a, .int .i64 b, .int .i64 c] (w.heap.size + 1 + 1) #[.int .i64 0, .int .i64 0, .int .i64 0]) from h4)
      clear h4 hw4 H3 a0 a1 a2 f0 f1 f2
      have hb0 := H4.out.blk 3 (b := w.heap.size) rfl
      have o0 := hb0.cell 0
      have o1 := hb0.cell 1
      have o2 := hb0.cell 2
      have o3 := hb0.cell 3
      have o4 := hb0.cell 4
      simp at o0 o1 o2 o3 o4
      clear hb0
      go_wp2_with fail
      refine (HC2.out w4 _ 1 H4.out rfl).mono ?_
      rintro e w5 ⟨rfl, hst⟩
      have H5 := Lib.hid (show St w0 w5 ([hashA bd l, tabA bt rows', rhA bw l] ++ doT w.heap.size ⟨kind, x, vk, va, vb⟩ (w.heap.size + 1) #[.int .i64 a, .int .i64 b, .int .i64 c] (w.heap.size + 1 + 1) #[.int .i64 0, .int .i64 0, .int .i64 0]) from hst)
      clear hst HC2 H4 o0 o1 o2 o3 o4
      have hbb := H5.out.blk 5 (b := w.heap.size + 1 + 1) rfl
      have a0 := hbb.cell 0
      have a1 := hbb.cell 1
      have a2 := hbb.cell 2
      have f0 := hbb.frozen 0
      have f1 := hbb.frozen 1
      have f2 := hbb.frozen 2
      simp at a0 a1 a2
      clear hbb
      go_upto_region 12 with (fail)
      have h6 := doT_set3 H5.out 2 (w.heap.size + 1 + 1) _ rfl (.int .i64 a) (.int .i64 b) (.int .i64 c)
      obtain ⟨w6, hw6⟩ : ∃ w6, w6 = ((w5.setCell ⟨w.heap.size + 1 + 1, 0, none⟩ (.int .i64 a)).setCell ⟨w.heap.size + 1 + 1, 1, none⟩ (.int .i64 b)).setCell ⟨w.heap.size + 1 + 1, 2, none⟩ (.int .i64 c) := ⟨_, rfl⟩
      rw [← hw6] at h6 ⊢
      have H6 := Lib.hid (show St w0 w6 ([hashA bd l, tabA bt rows', rhA bw l] ++ doT w.heap.size ⟨kind, x, vk, va, vb⟩ (w.heap.size + 1) #[.int .i64 a, .int .i64 b, .int .i64 c] (w.heap.size + 1 + 1) #[.int .i64 a, .int .i64 b, .int .i64 c]) from h6)
      clear h6 hw6 H5 a0 a1 a2 f0 f1 f2
      have hba := H6.out.blk 4 (b := w.heap.size + 1) rfl
      have hbb := H6.out.blk 5 (b := w.heap.size + 1 + 1) rfl
      have a0 := hba.cell 0
      have a1 := hba.cell 1
      have a2 := hba.cell 2
      have b0 := hbb.cell 0
      have b1 := hbb.cell 1
      have b2 := hbb.cell 2
      simp at a0 a1 a2 b0 b1 b2
      obtain ⟨at', ct, cp, _⟩ := tab_ptr H6.out 1 (b := bt) (l := rows') rfl
      obtain ⟨n, hn⟩ : ∃ n, rows'.length = n := ⟨_, rfl⟩
      have HL := Lib.hid (fun m => hash_len (H6.out.drewN m) 0 (b := bd) (l := l) rfl)
      rw [HCN.out, hn] at HL
      rw [hn] at cp
      clear hba hbb hn
      go_quiet ((go_at_call 35; exact Calls.quiet_of_same ((HL.out _).mono (fun _ _ h => ⟨h.1, h.2.symm⟩))))
      go_wp2_with fail
      go_ret
      exact ⟨rfl, (H6.out.drewN _).take 3⟩
end Go.Proofs.Ytcmbbkaioopkhaa
