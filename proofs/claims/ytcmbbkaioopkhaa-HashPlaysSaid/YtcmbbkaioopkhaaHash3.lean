/-
  The package hash: room is made.
-/
import Derived.Test.YtcmbbkaioopkhaaHash2
namespace Go.Proofs.Ytcmbbkaioopkhaa
open Go Go.RowKit
set_option linter.unusedVariables false
set_option linter.unusedSimpArgs false

theorem hash_flat_new (n : Nat) : (List.replicate n [Value.int .i64 0, .int .i64 0, .int .i64 0, .int .i64 0, .int .i64 0]).flatten = flatSl (List.replicate n emptyS) := (flat_replicate SlotV.cells emptyS n).symm
theorem make_slots {w0 w : World} {L : List Asr} (h : St w0 w L) (n : Nat) (hn : n ≤ 2000000) :
    ∃ w', (Instr.makeSlice 76 (.int .i64 (n : Int)) (.int .i64 (n : Int))).run Try.prog w = .ok (.slice (some ⟨w.heap.size, 0, none⟩) n n) w' ∧
      St w0 w' (L ++ [slA 79 5 (.slice (some ⟨w.heap.size, 0, none⟩) n n) n (flatSl (List.replicate n emptyS))]) := by
  obtain ⟨w', h1, h2⟩ := h.make (P := Try.prog) (t := 76) (e := 79) (size := 5) (bytes := 40) (.agg #[.int .i64 0, .int .i64 0, .int .i64 0, .int .i64 0, .int .i64 0])
    Try.underlying76 (by kernel_rfl) rfl (by decide) .i64 .i64 n (by omega) (by unfold maxLen; omega)
  refine ⟨w', h1, ?_⟩
  rw [show (Value.agg #[.int .i64 0, .int .i64 0, .int .i64 0, .int .i64 0, .int .i64 0]).cells.toList = [Value.int .i64 0, .int .i64 0, .int .i64 0, .int .i64 0, .int .i64 0] from rfl, hash_flat_new] at h2
  exact h2

theorem snoc_get (M : List Asr) (A : Asr) (n : Nat) (h : M.length = n) : (M ++ [A])[n]? = some A := by
  subst h
  simp
theorem set_snoc (L : List Asr) (i : Nat) (X Y A : Asr) (hi : i < L.length) : (L.set i X ++ [A]).set i Y = L.set i Y ++ [A] := by
  rw [List.set_append_left _ _ (by simpa using hi), List.set_set]
theorem St.swapLast {w0 w : World} {a o nw : Asr} {R : List Asr} (h : St w0 w ((a :: o :: R) ++ [nw])) : St w0 w ((a :: nw :: R) ++ [o]) := by
  refine h.pick (fun j => if j = 1 then R.length + 2 else if j = R.length + 2 then 1 else j) (fun j k hj hk e => ?_) (fun j B hj => ?_)
  · simp at hj hk
    by_cases e1 : j = 1 <;> by_cases e2 : k = 1 <;> by_cases e3 : j = R.length + 2 <;> by_cases e4 : k = R.length + 2 <;> simp [e1, e2, e3, e4] at e <;> omega
  · by_cases e1 : j = 1
    · subst e1
      simp at hj
      simp [hj]
    · by_cases e2 : j = R.length + 2
      · subst e2
        rw [List.getElem?_append_right (by simp)] at hj
        simp at hj
        simp [hj]
      · have hjl := (List.getElem?_eq_some_iff.1 hj).1
        simp at hjl
        have hj2 : j < (a :: nw :: R).length := by simp; omega
        rw [List.getElem?_append_left hj2] at hj
        simp only [e1, e2, if_false]
        rw [List.getElem?_append_left (by simpa using hj2)]
        match j, e1 with
        | 0, _ => exact hj
        | j + 2, _ => exact hj
def LoopGrow (w0 : World) (L : List Asr) (i b N n : Nat) (l : List SlotV) (ov : Value) (g : Nat) (v49 : Value) (wr : World) : Prop :=
  ∃ k : Nat, g + k = n ∧ v49 = .int .i64 k ∧ St w0 wr (L.set i (hashA b (rebK hmO N l k)) ++ [slA 79 5 ov n (flatSl l)])

set_option maxRecDepth 2000 in
set_option maxHeartbeats 2000000 in
theorem hash_grow {w0 w : World} {L : List Asr} {b : Nat} {l : List SlotV} (H : St w0 w L) (i : Nat) (hi : L[i]? = some (hashA b l)) (hT : Tab hmO l) (hP : Pow l.length) (hl : l.length ≤ 524288) :
    Calls Try.prog 48 #[.pointer (some ⟨b, 0, none⟩)] w (fun e w' => e = .returned (.tuple #[]) ∧ St w0 w' (L.set i (hashA b (growS hmO l)))) := by
  have hcl1 := cntK_le 1 l
  have hcl2 := cntK_le 2 l
  obtain ⟨⟨a, c⟩, h⟩ := H.exSplit i hi
  have HIL := Lib.hid (List.getElem?_eq_some_iff.1 hi).1
  have HGE := Lib.hid (show growS hmO l = _ from rfl)
  have HL0 := Lib.hid (show L.set i (hashA b l) = L by
    apply List.ext_getElem?
    intro j
    by_cases e : i = j
    · subst e; rw [List.getElem?_set_self HIL.out, hi]
    · rw [List.getElem?_set_ne e])
  have HH0 := Lib.hid H
  obtain ⟨n, hn⟩ : ∃ n, l.length = n := ⟨_, rfl⟩
  obtain ⟨cf, hcf⟩ : ∃ cf, cntK 1 l = cf := ⟨_, rfl⟩
  obtain ⟨ct, hct⟩ : ∃ ct, cntK 2 l = ct := ⟨_, rfl⟩
  have hNN : newN l = if 2 * (cf + 1) > n then 2 * n else n := by unfold newN; rw [hcf, hn]
  have hGG : growS hmO l = if 4 * (cf + ct + 1) ≤ 3 * n then l else rebK hmO (newN l) l n := by unfold growS; rw [hcf, hct, hn]
  unfold hashPs at h
  rw [hn, hcf, hct] at h
  rw [hn] at hl hcl1 hcl2
  rw [hcf] at hcl1
  rw [hct] at hcl2
  have HH := Lib.hid h
  have HN := Lib.hid hn
  have HT := Lib.hid hT
  have HP := Lib.hid hP
  have HCF := Lib.hid hcf
  have c0 := (HH.out.blk 0 rfl).cell 0
  have c1 := (HH.out.blk 0 rfl).cell 1
  have c2 := (HH.out.blk 0 rfl).cell 2
  simp at c0 c1 c2
  clear H hi hT hP h hn hcf hct HGE
  by_cases hroom : 4 * (cf + ct + 1) ≤ 3 * n
  · rw [hGG, if_pos hroom]
    have hroom' : (4 : Int) * ((cf : Int) + ct + 1) ≤ 3 * n := by omega
    clear hNN hGG
    go_enter Try.func48, Try.ntmps48
    go_wp2_with fail
    go_quiet (fail)
    go_wp2_with fail
    refine bodyPost_ret (results_none rfl _ _ _) rfl ?_
    rw [HL0.out]
    exact ⟨rfl, HH0.out.drewN _⟩
  · rw [hGG, if_neg hroom]
    have hroom' : ¬ (4 : Int) * ((cf : Int) + ct + 1) ≤ 3 * n := by omega
    obtain ⟨N, hN⟩ : ∃ N, newN l = N := ⟨_, rfl⟩
    rw [hN] at hNN ⊢
    have HNW := Lib.hid hN
    have HRM := Lib.hid hroom
    clear hGG hN hroom HH0 HL0
    by_cases h2 : 2 * (cf + 1) > n
    all_goals
      first
      | (rw [if_pos h2] at hNN)
      | (rw [if_neg h2] at hNN)
      first
      | have h2' : (n : Int) < 2 * ((cf : Int) + 1) := by omega
      | have h2' : ¬ (n : Int) < 2 * ((cf : Int) + 1) := by omega
      have hN2 : N ≤ 1048576 := by omega
      first
      | (have HNI := Lib.hid (show (N : Int) = (n : Int) * 2 by omega)
         have HNP : Hid (Pow N) := Lib.hid (hNN ▸ ((HN.out ▸ HP.out : Pow n).twice hl)))
      | (have HNI := Lib.hid (show (N : Int) = (n : Int) by omega)
         have HNP : Hid (Pow N) := Lib.hid (hNN ▸ (HN.out ▸ HP.out : Pow n)))
      have HR4 : Hid (4 * cntK 1 l ≤ 3 * N) := Lib.hid (by
        have := HT.out.room
        rw [HN.out] at this
        omega)
      clear hNN
      go_enter Try.func48, Try.ntmps48
      go_wp2_with fail
      go_quiet (fail)
      go_upto_region 5 with (fail)
      generalize hq4 : w.drewN _ = w4
      have H4 := hq4 ▸ HH.out.drewN _
      obtain ⟨w5, hmk, hst5⟩ := make_slots H4 N (by omega)
      obtain ⟨gn, hgn⟩ : ∃ gn, w4.heap.size = gn := ⟨_, rfl⟩
      rw [hgn] at hmk hst5
      rw [HNI.out] at hmk
      have H5 := Lib.hid hst5
      clear hst5 hgn H4 hq4
      have f50 := (H5.out.blk 0 (b := b) rfl).frozen 0
      have f51 := (H5.out.blk 0 (b := b) rfl).frozen 1
      have f52 := (H5.out.blk 0 (b := b) rfl).frozen 2
      have c50 := (H5.out.blk 0 (b := b) rfl).cell 0
      have c51 := (H5.out.blk 0 (b := b) rfl).cell 1
      have c52 := (H5.out.blk 0 (b := b) rfl).cell 2
      simp at c50 c51 c52
      go_upto_region 6 with (fail)
      have h6 := ((H5.out.write 0 (b := b) rfl 0 (.int .i64 0)).write 0 (b := b) rfl 1 (.int .i64 0)).write 0 (b := b) rfl 2 (.slice (some ⟨gn, 0, none⟩) N N)
      obtain ⟨w6, hw6⟩ : ∃ w6, w6 = ((w5.setCell ⟨b, 0, none⟩ (.int .i64 0)).setCell ⟨b, 1, none⟩ (.int .i64 0)).setCell ⟨b, 2, none⟩ (.slice (some ⟨gn, 0, none⟩) N N) := ⟨_, rfl⟩
      rw [← hw6] at h6 ⊢
      have h7 := St.swapLast (show St w0 w6 ((blkA b #[.int .i64 0, .int .i64 0, .slice (some ⟨gn, 0, none⟩) N N] 92 :: slA 79 5 (.slice a n c) n (flatSl l) :: L.set i empA) ++ [slA 79 5 (.slice (some ⟨gn, 0, none⟩) N N) N (flatSl (List.replicate N emptyS))]) from h6)
      have h8 := St.exJoin1 (hashPs b (List.replicate N emptyS)) (some ⟨gn, 0, none⟩, N) (L := L) i HIL.out (by
        unfold hashPs
        have e1 : cntK 1 (List.replicate N emptyS) = 0 := by rw [cntK_rep]; rfl
        have e2 : cntK 2 (List.replicate N emptyS) = 0 := by rw [cntK_rep]; rfl
        rw [e1, e2, List.length_replicate]
        exact h7)
      have H8 := Lib.hid (show St w0 w6 (L.set i (hashA b (rebK hmO N l 0)) ++ [slA 79 5 (.slice a n c) n (flatSl l)]) from h8)
      clear h6 h7 h8 hw6 H5 f50 f51 f52 c50 c51 c52 hmk HH c0 c1 c2
      have HREB := Lib.hid (fun k hk => Reb.all (n := N) HT.out (by have := HNP.out.pos; omega) HNP.out.home HR4.out k hk)
      go_wp2_with fail
      go_loopg [49] n (fun g v49 wr => LoopGrow w0 L i b N n l (.slice a n c) g v49 wr)
      case atStart => exact ⟨0, by omega, rfl, H8.out⟩
      case round =>
        obtain ⟨k, hk, rfl, hst⟩ := hrel
        clear H8
        have hkn : k ≤ n := by omega
        have HK := Lib.hid hk; clear hk
        have H := Lib.hid hst; clear hst
        by_cases hlt : k < n
        · obtain ⟨S, _, hrd, _⟩ := H.out.rd L.length (snoc_get _ _ _ (by simp))
          obtain ⟨bs, os, rfl, _, hco⟩ := (show Rd S wr (.slice a n c) n (flatSl l) from hrd).elem (cells := SlotV.cells) (size := 5) (fun _ => rfl) (by decide) (sl_get (l := l) (p := k) (by rw [HN.out]; exact hlt))
          have hsc := rebK_succ (hm := hmO) N l k (by rw [HN.out]; exact hlt)
          have hR := HREB.out k (by rw [HN.out]; omega)
          have hnx := fun h1 => Reb.next HT.out (n := N) HR4.out hR (by rw [HN.out]; exact hlt) h1
          obtain ⟨s, hs⟩ : ∃ s, sl l k = s := ⟨_, rfl⟩
          rw [hs] at hco hsc hnx
          clear hs hrd
          obtain ⟨kind, idx, vk, va, vb⟩ := s
          have d3 := hco 0 (by decide)
          have d4 := hco 1 (by decide)
          have d5 := hco 2 (by decide)
          have d6 := hco 3 (by decide)
          have d7 := hco 4 (by decide)
          simp [SlotV.cells] at d3 d4 d5 d6 d7
          have hki : (k : Int) < n := by omega
          by_cases hk1 : kind = 1
          · subst hk1
            obtain ⟨⟨i0, i1⟩, n2, n3⟩ := hnx rfl
            obtain ⟨q, q1, q2, q3, q4, q5, q6, q7, q8⟩ := hR.tab.ins ⟨i0, i1⟩ vk va vb n2 n3
            have hsc2 : rebK hmO N l (k + 1) = (rebK hmO N l k).set q ⟨1, idx, vk, va, vb⟩ := by rw [hsc]; unfold addS; rw [if_pos rfl]; exact q4
            have HSC := Lib.hid hsc2
            have HR := Lib.hid hR
            have hcc := cntK_le 1 (rebK hmO N l k)
            have hcc2 := cntK_le 2 (rebK hmO N l k)
            rw [hR.len] at hcc hcc2
            have HC := Lib.hid (fun (w9 : World) (h9 : St w0 w9 (L.set i (hashA b (rebK hmO N l k)) ++ [slA 79 5 (.slice (some ⟨bs, os, none⟩) n c) n (flatSl l)])) =>
              hash_put1 h9 i (by rw [List.getElem?_append_left (by simpa using HIL.out), List.getElem?_set_self HIL.out]) hR.tab (by rw [hR.len]; exact HNP.out) idx i0 i1 vk va vb q q1 q2 q3 _ rfl (by rw [hR.full]; have := cntK_take_le 1 l k; rw [HCF.out] at this; omega) (by rw [hR.left]; omega))
            clear hco hsc hnx hR n2 n3 q1 q2 q3 q4 q5 q6 q7 q8 hsc2 hcc hcc2
            go_wp2_with fail
            refine (HC.out _ (H.out.alloc _)).mono ?_
            rintro e w9 ⟨rfl, hst⟩
            rw [set_snoc _ _ _ _ _ HIL.out, ← HSC.out] at hst
            have H9 := Lib.hid hst
            clear hst H HC
            go_wp2_with fail
            go_roundg (n - (k + 1))
            case measure => have := HK.out; omega
            case rel => exact ⟨k + 1, by omega, by go_num, H9.out⟩
          · have hkd : (kind == 1) = false := beq_eq_false_iff_ne.2 hk1
            have hsc2 : rebK hmO N l (k + 1) = rebK hmO N l k := by rw [hsc]; unfold addS; rw [if_neg hk1]
            have HSC := Lib.hid hsc2
            clear hco hsc hnx hR hsc2
            go_wp2_with fail
            go_roundg (n - (k + 1))
            case measure => have := HK.out; omega
            case rel => exact ⟨k + 1, by omega, by go_num, by rw [HSC.out]; exact H.out.alloc _⟩
        · obtain rfl : k = n := by omega
          go_wp2_with fail
          go_end0
          refine ⟨rfl, ?_⟩
          have h := H.out.take L.length
          rw [List.take_left' (by simp)] at h
          exact h
end Go.Proofs.Ytcmbbkaioopkhaa
