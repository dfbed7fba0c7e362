/-
  The package hash: room is made; The package hash: a value is got; The package hash: a value is put; The package hash: a value is taken away.
-/
import Derived.Test.YtkiikblpgppmkaaGreatDoorSpM11
namespace Go.Proofs.YtkiikblpgppmkaaGreatDoor
open Go Go.RowKit
set_option linter.unusedVariables false
set_option linter.unusedSimpArgs false

theorem hash_flat_new (n : Nat) : (List.replicate n [Value.int .i64 0, .int .i64 0, .int .i64 0, .int .i64 0, .int .i64 0]).flatten = flatSl (List.replicate n emptyS) := (flat_replicate SlotV.cells emptyS n).symm
theorem make_slots {w0 w : World} {L : List Asr} (h : St w0 w L) (n : Nat) (hn : n ≤ 2000000) :
    ∃ w', (Instr.makeSlice 436 (.int .i64 (n : Int)) (.int .i64 (n : Int))).run Tryz.prog w = .ok (.slice (some ⟨w.heap.size, 0, none⟩) n n) w' ∧
      St w0 w' (L ++ [slA 504 5 (.slice (some ⟨w.heap.size, 0, none⟩) n n) n (flatSl (List.replicate n emptyS))]) := by
  obtain ⟨w', h1, h2⟩ := h.make (P := Tryz.prog) (t := 436) (e := 504) (size := 5) (bytes := 40) (.agg #[.int .i64 0, .int .i64 0, .int .i64 0, .int .i64 0, .int .i64 0])
    Tryz.underlying436 (by kernel_rfl) rfl (by decide) .i64 .i64 n (by omega) (by unfold maxLen; omega)
  refine ⟨w', h1, ?_⟩
  rw [show (Value.agg #[.int .i64 0, .int .i64 0, .int .i64 0, .int .i64 0, .int .i64 0]).cells.toList = [Value.int .i64 0, .int .i64 0, .int .i64 0, .int .i64 0, .int .i64 0] from rfl, hash_flat_new] at h2
  exact h2

theorem snoc_get (M : List Asr) (A : Asr) (n : Nat) (h : M.length = n) : (M ++ [A])[n]? = some A := by
  subst h
  simp
theorem set_snoc (L : List Asr) (i : Nat) (X Y A : Asr) (hi : i < L.length) : (L.set i X ++ [A]).set i Y = L.set i Y ++ [A] := by
  rw [List.set_append_left _ _ (by simpa using hi), List.set_set]
theorem St.swapLast {w0 w : World} {a o nw : Asr} {R : List Asr} (h : St w0 w ((a :: o :: R) ++ [nw])) : St w0 w ((a :: nw :: R) ++ [o]) := by
  refine h.pick (fun j => if j = 1 then R.length + 2 else if j = R.length + 2 then 1 else j) (fun j k hj hk e => ?_) (fun j B hj => ?_)
  · simp at hj hk
    by_cases e1 : j = 1 <;> by_cases e2 : k = 1 <;> by_cases e3 : j = R.length + 2 <;> by_cases e4 : k = R.length + 2 <;> simp [e1, e2, e3, e4] at e <;> omega
  · by_cases e1 : j = 1
    · subst e1
      simp at hj
      simp [hj]
    · by_cases e2 : j = R.length + 2
      · subst e2
        rw [List.getElem?_append_right (by simp)] at hj
        simp at hj
        simp [hj]
      · have hjl := (List.getElem?_eq_some_iff.1 hj).1
        simp at hjl
        have hj2 : j < (a :: nw :: R).length := by simp; omega
        rw [List.getElem?_append_left hj2] at hj
        simp only [e1, e2, if_false]
        rw [List.getElem?_append_left (by simpa using hj2)]
        match j, e1 with
        | 0, _ => exact hj
        | j + 2, _ => exact hj
def LoopGrow (w0 : World) (L : List Asr) (i b N n : Nat) (l : List SlotV) (ov : Value) (g : Nat) (v49 : Value) (wr : World) : Prop :=
  ∃ k : Nat, g + k = n ∧ v49 = .int .i64 k ∧ St w0 wr (L.set i (hashA b (rebK hmO N l k)) ++ [slA 504 5 ov n (flatSl l)])

set_option maxRecDepth 2000 in
set_option maxHeartbeats 2000000 in
theorem hash_grow {w0 w : World} {L : List Asr} {b : Nat} {l : List SlotV} (H : St w0 w L) (i : Nat) (hi : L[i]? = some (hashA b l)) (hT : HTab hmO l) (hP : Pow l.length) (hl : l.length ≤ 524288) :
    Calls Tryz.prog 395 #[.pointer (some ⟨b, 0, none⟩)] w (fun e w' => e = .returned (.tuple #[]) ∧ St w0 w' (L.set i (hashA b (growS hmO l)))) := by
  have hcl1 := cntK_le 1 l
  have hcl2 := cntK_le 2 l
  obtain ⟨⟨a, c⟩, h⟩ := H.exSplit i hi
  have HIL := Lib.hid (List.getElem?_eq_some_iff.1 hi).1
  have HGE := Lib.hid (show growS hmO l = _ from rfl)
  have HL0 := Lib.hid (show L.set i (hashA b l) = L by
    apply List.ext_getElem?
    intro j
    by_cases e : i = j
    · subst e; rw [List.getElem?_set_self HIL.out, hi]
    · rw [List.getElem?_set_ne e])
  have HH0 := Lib.hid H
  obtain ⟨n, hn⟩ : ∃ n, l.length = n := ⟨_, rfl⟩
  obtain ⟨cf, hcf⟩ : ∃ cf, cntK 1 l = cf := ⟨_, rfl⟩
  obtain ⟨ct, hct⟩ : ∃ ct, cntK 2 l = ct := ⟨_, rfl⟩
  have hNN : newN l = if 2 * (cf + 1) > n then 2 * n else n := by unfold newN; rw [hcf, hn]
  have hGG : growS hmO l = if 4 * (cf + ct + 1) ≤ 3 * n then l else rebK hmO (newN l) l n := by unfold growS; rw [hcf, hct, hn]
  unfold hashPs at h
  rw [hn, hcf, hct] at h
  rw [hn] at hl hcl1 hcl2
  rw [hcf] at hcl1
  rw [hct] at hcl2
  have HH := Lib.hid h
  have HN := Lib.hid hn
  have HT := Lib.hid hT
  have HP := Lib.hid hP
  have HCF := Lib.hid hcf
  have c0 := (HH.out.blk 0 rfl).cell 0
  have c1 := (HH.out.blk 0 rfl).cell 1
  have c2 := (HH.out.blk 0 rfl).cell 2
  simp at c0 c1 c2
  clear H hi hT hP h hn hcf hct HGE
  by_cases hroom : 4 * (cf + ct + 1) ≤ 3 * n
  · rw [hGG, if_pos hroom]
    have hroom' : (4 : Int) * ((cf : Int) + ct + 1) ≤ 3 * n := by omega
    clear hNN hGG
    go_enter Tryz.func395, Tryz.ntmps395
    go_wp2_with fail
    go_quiet (fail)
    go_wp2_with fail
    refine bodyPost_ret (results_none rfl _ _ _) rfl ?_
    rw [HL0.out]
    exact ⟨rfl, HH0.out.drewN _⟩
  · rw [hGG, if_neg hroom]
    have hroom' : ¬ (4 : Int) * ((cf : Int) + ct + 1) ≤ 3 * n := by omega
    obtain ⟨N, hN⟩ : ∃ N, newN l = N := ⟨_, rfl⟩
    rw [hN] at hNN ⊢
    have HNW := Lib.hid hN
    have HRM := Lib.hid hroom
    clear hGG hN hroom HH0 HL0
    by_cases h2 : 2 * (cf + 1) > n
    all_goals
      first
      | (rw [if_pos h2] at hNN)
      | (rw [if_neg h2] at hNN)
      first
      | have h2' : (n : Int) < 2 * ((cf : Int) + 1) := by omega
      | have h2' : ¬ (n : Int) < 2 * ((cf : Int) + 1) := by omega
      have hN2 : N ≤ 1048576 := by omega
      first
      | (have HNI := Lib.hid (show (N : Int) = (n : Int) * 2 by omega)
         have HNP : Hid (Pow N) := Lib.hid (hNN ▸ ((HN.out ▸ HP.out : Pow n).twice hl)))
      | (have HNI := Lib.hid (show (N : Int) = (n : Int) by omega)
         have HNP : Hid (Pow N) := Lib.hid (hNN ▸ (HN.out ▸ HP.out : Pow n)))
      have HR4 : Hid (4 * cntK 1 l ≤ 3 * N) := Lib.hid (by
        have := HT.out.room
        rw [HN.out] at this
        omega)
      clear hNN
      go_enter Tryz.func395, Tryz.ntmps395
      go_wp2_with fail
      go_quiet (fail)
      go_upto_region 5 with (fail)
      generalize hq4 : w.drewN _ = w4
      have H4 := hq4 ▸ HH.out.drewN _
      obtain ⟨w5, hmk, hst5⟩ := make_slots H4 N (by omega)
      obtain ⟨gn, hgn⟩ : ∃ gn, w4.heap.size = gn := ⟨_, rfl⟩
      rw [hgn] at hmk hst5
      rw [HNI.out] at hmk
      have H5 := Lib.hid hst5
      clear hst5 hgn H4 hq4
      have f50 := (H5.out.blk 0 (b := b) rfl).frozen 0
      have f51 := (H5.out.blk 0 (b := b) rfl).frozen 1
      have f52 := (H5.out.blk 0 (b := b) rfl).frozen 2
      have c50 := (H5.out.blk 0 (b := b) rfl).cell 0
      have c51 := (H5.out.blk 0 (b := b) rfl).cell 1
      have c52 := (H5.out.blk 0 (b := b) rfl).cell 2
      simp at c50 c51 c52
      go_upto_region 6 with (fail)
      have h6 := ((H5.out.write 0 (b := b) rfl 0 (.int .i64 0)).write 0 (b := b) rfl 1 (.int .i64 0)).write 0 (b := b) rfl 2 (.slice (some ⟨gn, 0, none⟩) N N)
      obtain ⟨w6, hw6⟩ : ∃ w6, w6 = ((w5.setCell ⟨b, 0, none⟩ (.int .i64 0)).setCell ⟨b, 1, none⟩ (.int .i64 0)).setCell ⟨b, 2, none⟩ (.slice (some ⟨gn, 0, none⟩) N N) := ⟨_, rfl⟩
      rw [← hw6] at h6 ⊢
      have h7 := St.swapLast (show St w0 w6 ((blkA b #[.int .i64 0, .int .i64 0, .slice (some ⟨gn, 0, none⟩) N N] 440 :: slA 504 5 (.slice a n c) n (flatSl l) :: L.set i empA) ++ [slA 504 5 (.slice (some ⟨gn, 0, none⟩) N N) N (flatSl (List.replicate N emptyS))]) from h6)
      have h8 := St.exJoin1 (hashPs b (List.replicate N emptyS)) (some ⟨gn, 0, none⟩, N) (L := L) i HIL.out (by
        unfold hashPs
        have e1 : cntK 1 (List.replicate N emptyS) = 0 := by rw [cntK_rep]; rfl
        have e2 : cntK 2 (List.replicate N emptyS) = 0 := by rw [cntK_rep]; rfl
        rw [e1, e2, List.length_replicate]
        exact h7)
      have H8 := Lib.hid (show St w0 w6 (L.set i (hashA b (rebK hmO N l 0)) ++ [slA 504 5 (.slice a n c) n (flatSl l)]) from h8)
      clear h6 h7 h8 hw6 H5 f50 f51 f52 c50 c51 c52 hmk HH c0 c1 c2
      have HREB := Lib.hid (fun k hk => Reb.all (n := N) HT.out (by have := HNP.out.pos; omega) HNP.out.home HR4.out k hk)
      go_wp2_with fail
      go_loopg [49] n (fun g v49 wr => LoopGrow w0 L i b N n l (.slice a n c) g v49 wr)
      case atStart => exact ⟨0, by omega, rfl, H8.out⟩
      case round =>
        obtain ⟨k, hk, rfl, hst⟩ := hrel
        clear H8
        have hkn : k ≤ n := by omega
        have HK := Lib.hid hk; clear hk
        have H := Lib.hid hst; clear hst
        by_cases hlt : k < n
        · obtain ⟨S, _, hrd, _⟩ := H.out.rd L.length (snoc_get _ _ _ (by simp))
          obtain ⟨bs, os, rfl, _, hco⟩ := (show Rd S wr (.slice a n c) n (flatSl l) from hrd).elem (cells := SlotV.cells) (size := 5) (fun _ => rfl) (by decide) (sl_get (l := l) (p := k) (by rw [HN.out]; exact hlt))
          have hsc := rebK_succ (hm := hmO) N l k (by rw [HN.out]; exact hlt)
          have hR := HREB.out k (by rw [HN.out]; omega)
          have hnx := fun h1 => Reb.next HT.out (n := N) HR4.out hR (by rw [HN.out]; exact hlt) h1
          obtain ⟨s, hs⟩ : ∃ s, sl l k = s := ⟨_, rfl⟩
          rw [hs] at hco hsc hnx
          clear hs hrd
          obtain ⟨kind, idx, vk, va, vb⟩ := s
          have d3 := hco 0 (by decide)
          have d4 := hco 1 (by decide)
          have d5 := hco 2 (by decide)
          have d6 := hco 3 (by decide)
          have d7 := hco 4 (by decide)
          simp [SlotV.cells] at d3 d4 d5 d6 d7
          have hki : (k : Int) < n := by omega
          by_cases hk1 : kind = 1
          · subst hk1
            obtain ⟨⟨i0, i1⟩, n2, n3⟩ := hnx rfl
            obtain ⟨q, q1, q2, q3, q4, q5, q6, q7, q8⟩ := hR.tab.ins ⟨i0, i1⟩ vk va vb n2 n3
            have hsc2 : rebK hmO N l (k + 1) = (rebK hmO N l k).set q ⟨1, idx, vk, va, vb⟩ := by rw [hsc]; unfold addS; rw [if_pos rfl]; exact q4
            have HSC := Lib.hid hsc2
            have HR := Lib.hid hR
            have hcc := cntK_le 1 (rebK hmO N l k)
            have hcc2 := cntK_le 2 (rebK hmO N l k)
            rw [hR.len] at hcc hcc2
            have HC := Lib.hid (fun (w9 : World) (h9 : St w0 w9 (L.set i (hashA b (rebK hmO N l k)) ++ [slA 504 5 (.slice (some ⟨bs, os, none⟩) n c) n (flatSl l)])) =>
              hash_put1 h9 i (by rw [List.getElem?_append_left (by simpa using HIL.out), List.getElem?_set_self HIL.out]) hR.tab (by rw [hR.len]; exact HNP.out) idx i0 i1 vk va vb q q1 q2 q3 _ rfl (by rw [hR.full]; have := cntK_take_le 1 l k; rw [HCF.out] at this; omega) (by rw [hR.left]; omega))
            clear hco hsc hnx hR n2 n3 q1 q2 q3 q4 q5 q6 q7 q8 hsc2 hcc hcc2
            go_wp2_with fail
            refine (HC.out _ (H.out.alloc _)).mono ?_
            rintro e w9 ⟨rfl, hst⟩
            rw [set_snoc _ _ _ _ _ HIL.out, ← HSC.out] at hst
            have H9 := Lib.hid hst
            clear hst H HC
            go_wp2_with fail
            go_roundg (n - (k + 1))
            case measure => have := HK.out; omega
            case rel => exact ⟨k + 1, by omega, by go_num, H9.out⟩
          · have hkd : (kind == 1) = false := beq_eq_false_iff_ne.2 hk1
            have hsc2 : rebK hmO N l (k + 1) = rebK hmO N l k := by rw [hsc]; unfold addS; rw [if_neg hk1]
            have HSC := Lib.hid hsc2
            clear hco hsc hnx hR hsc2
            go_wp2_with fail
            go_roundg (n - (k + 1))
            case measure => have := HK.out; omega
            case rel => exact ⟨k + 1, by omega, by go_num, by rw [HSC.out]; exact H.out.alloc _⟩
        · obtain rfl : k = n := by omega
          go_wp2_with fail
          go_end0
          refine ⟨rfl, ?_⟩
          have h := H.out.take L.length
          rw [List.take_left' (by simp)] at h
          exact h
end Go.Proofs.YtkiikblpgppmkaaGreatDoor

namespace Go.Proofs.YtkiikblpgppmkaaGreatDoor
open Go Go.RowKit
set_option linter.unusedVariables false
set_option linter.unusedSimpArgs false

def zV : Value := .agg #[.int .i64 0, .int .i64 0, .int .i64 0]
def SlotV.val (s : SlotV) : Value := .agg #[.int .i64 s.vk, .int .i64 s.va, .int .i64 s.vb]

set_option maxHeartbeats 1000000 in
theorem hash_get_yes {w0 w : World} {L : List Asr} {b : Nat} {l : List SlotV} (H : St w0 w L) (i : Nat) (hi : L[i]? = some (hashA b l)) (hT : HTab hmO l) (hP : Pow l.length) (x : Int) (h0 : 0 ≤ x) (h1 : x < 65536) (p : Nat) (hp : p < l.length) (hf : findS hmO l x = ((p : Int), -1)) :
    Calls Tryz.prog 391 #[.pointer (some ⟨b, 0, none⟩), .int .i64 x] w (Ret w (.tuple #[(sl l p).val, .bool true])) := by
  have HA := H.alloc (.cells #[.int .i64 0, .int .i64 0, .int .i64 0] 34)
  have hC := hash_find HA i hi hT hP x h0 h1
  rw [hf] at hC
  have HC := Lib.hid hC; clear hC hf
  have HA' := Lib.hid HA
  have HI := Lib.hid hi
  have HB := Lib.hid (Blk.new w #[.int .i64 0, .int .i64 0, .int .i64 0] 34)
  clear H HA hi hT hP
  go_enter Tryz.func391, Tryz.ntmps391
  go_wp2_with fail
  refine (HC.out).mono ?_
  rintro e w1 ⟨rfl, hk1⟩
  have HK1 := Lib.hid hk1; clear hk1
  have hb := HB.out.keep HK1.out (fun f => f)
  have z0 := hb.cell 0
  have z1 := hb.cell 1
  have z2 := hb.cell 2
  have y0 := hb.frozen 0
  have y1 := hb.frozen 1
  have y2 := hb.frozen 2
  simp at z0 z1 z2
  obtain ⟨⟨a, c⟩, h⟩ := (HA'.out.keep HK1.out).exSplit i HI.out
  obtain ⟨n, hn⟩ : ∃ n, l.length = n := ⟨_, rfl⟩
  unfold hashPs at h
  rw [hn] at h hp
  have c2 := (h.blk 0 rfl).cell 2
  simp at c2
  obtain ⟨S, _, hrd, hS⟩ := h.rd 1 rfl
  obtain ⟨bs, os, rfl, hbs, hco⟩ := (show Rd S w1 (.slice a n c) n (flatSl l) from hrd).elem (cells := SlotV.cells) (size := 5) (fun _ => rfl) (by decide) (sl_get (l := l) (p := p) (by omega))
  obtain ⟨s, hs⟩ : ∃ s, sl l p = s := ⟨_, rfl⟩
  rw [hs] at hco
  have HS := Lib.hid hs
  obtain ⟨kind, idx, vk, va, vb⟩ := s
  have d5 := hco 2 (by decide)
  have d6 := hco 3 (by decide)
  have d7 := hco 4 (by decide)
  simp [SlotV.cells] at d5 d6 d7
  have hpi : (p : Int) < n := by omega
  have hcap : n ≤ c ∧ c ≤ maxLen := by obtain ⟨_, ho, _⟩ := h.rd 1 rfl; exact ho.cap
  unfold maxLen at hcap
  have HKK := Lib.hid (show Keep w w1 Nope from ((Keep.refl w Nope).alloc _).trans HK1.out (fun _ f => f.elim))
  have HBB := Lib.hid hb
  clear hco hs hrd h hb hS hn
  go_wp2_with fail
  rw [HS.out]
  have hb5 := ((HBB.out.setCell 0 (.int .i64 vk)).setCell 1 (.int .i64 va)).setCell 2 (.int .i64 vb)
  have e0 := hb5.cell 0
  have e1 := hb5.cell 1
  have e2 := hb5.cell 2
  simp at e0 e1 e2
  have HE := Lib.hid (((HKK.out.setCell (p := ⟨w.heap.size, 0, none⟩) (.inr (Nat.le_refl _)) (.int .i64 vk)).setCell (p := ⟨w.heap.size, 1, none⟩) (.inr (Nat.le_refl _)) (.int .i64 va)).setCell (p := ⟨w.heap.size, 2, none⟩) (.inr (Nat.le_refl _)) (.int .i64 vb))
  clear hb5 z0 z1 z2 y0 y1 y2 c2 d5 d6 d7
  refine bodyPost_ret (v := .tuple #[.agg #[.int .i64 vk, .int .i64 va, .int .i64 vb], .bool true]) (by simp [results, Tryz.results391, go_sem, e0, e1, e2]) rfl ⟨rfl, HE.out⟩

/-- The zero value stands in the cell of the result. -/
theorem zero_res {w w1 : World} (hk : Keep (w.alloc (.cells #[.int .i64 0, .int .i64 0, .int .i64 0] 34)) w1 Nope) :
    Blk w1 w.heap.size #[.int .i64 0, .int .i64 0, .int .i64 0] 34 := (Blk.new w _ _).keep hk (fun f => f)
theorem keep3 {w w1 : World} (hk : Keep w w1 Nope) (u0 u1 u2 : Value) : Keep w (((w1.setCell ⟨w.heap.size, 0, none⟩ u0).setCell ⟨w.heap.size, 1, none⟩ u1).setCell ⟨w.heap.size, 2, none⟩ u2) Nope :=
  ((hk.setCell (p := ⟨w.heap.size, 0, none⟩) (.inr (Nat.le_refl _)) u0).setCell (p := ⟨w.heap.size, 1, none⟩) (.inr (Nat.le_refl _)) u1).setCell (p := ⟨w.heap.size, 2, none⟩) (.inr (Nat.le_refl _)) u2

set_option maxHeartbeats 1000000 in
theorem hash_get_none {w0 w : World} {L : List Asr} {b : Nat} {l : List SlotV} (H : St w0 w L) (i : Nat) (hi : L[i]? = some (hashA b l)) (hT : HTab hmO l) (hP : Pow l.length) (x : Int) (h0 : 0 ≤ x) (h1 : x < 65536) (q : Int) (hf : findS hmO l x = (-1, q)) :
    Calls Tryz.prog 391 #[.pointer (some ⟨b, 0, none⟩), .int .i64 x] w (Ret w (.tuple #[zV, .bool false])) := by
  have HA := H.alloc (.cells #[.int .i64 0, .int .i64 0, .int .i64 0] 34)
  have hC := hash_find HA i hi hT hP x h0 h1
  rw [hf] at hC
  have HC := Lib.hid hC; clear hC hf H HA hi hT hP
  go_enter Tryz.func391, Tryz.ntmps391
  go_wp2_with fail
  refine (HC.out).mono ?_
  rintro e w1 ⟨rfl, hk1⟩
  have hb := zero_res hk1
  have HKK := Lib.hid (show Keep w w1 Nope from ((Keep.refl w Nope).alloc _).trans hk1 (fun _ f => f.elim))
  have z0 := hb.cell 0
  have z1 := hb.cell 1
  have z2 := hb.cell 2
  have y0 := hb.frozen 0
  have y1 := hb.frozen 1
  have y2 := hb.frozen 2
  simp at z0 z1 z2
  have HBB := Lib.hid hb
  clear hk1 hb
  go_wp2_with fail
  have hb5 := ((HBB.out.setCell 0 (.int .i64 0)).setCell 1 (.int .i64 0)).setCell 2 (.int .i64 0)
  have e0 := hb5.cell 0
  have e1 := hb5.cell 1
  have e2 := hb5.cell 2
  simp at e0 e1 e2
  have HE := Lib.hid (keep3 HKK.out (.int .i64 0) (.int .i64 0) (.int .i64 0))
  clear hb5 z0 z1 z2 y0 y1 y2
  refine bodyPost_ret (v := .tuple #[.agg #[.int .i64 0, .int .i64 0, .int .i64 0], .bool false]) (by simp [results, Tryz.results391, go_sem, e0, e1, e2]) rfl ⟨rfl, HE.out⟩

set_option maxHeartbeats 1000000 in
theorem hash_get_no (b : Nat) (x : Int) (hx : x < 0 ∨ 65536 ≤ x) (w : World) :
    Calls Tryz.prog 391 #[.pointer (some ⟨b, 0, none⟩), .int .i64 x] w (Ret w (.tuple #[zV, .bool false])) := by
  have hb := zero_res (Keep.refl (w.alloc (.cells #[.int .i64 0, .int .i64 0, .int .i64 0] 34)) Nope)
  have HKK := Lib.hid (show Keep w (w.alloc (.cells #[.int .i64 0, .int .i64 0, .int .i64 0] 34)) Nope from (Keep.refl w Nope).alloc _)
  have e0 := hb.cell 0
  have e1 := hb.cell 1
  have e2 := hb.cell 2
  simp at e0 e1 e2
  have HE0 := Lib.hid e0
  have HE1 := Lib.hid e1
  have HE2 := Lib.hid e2
  clear hb e0 e1 e2
  by_cases h0 : x < 0
  · clear hx
    go_enter Tryz.func391, Tryz.ntmps391
    go_wp2_with fail
    have e0 := HE0.out
    have e1 := HE1.out
    have e2 := HE2.out
    refine bodyPost_ret (v := .tuple #[.agg #[.int .i64 0, .int .i64 0, .int .i64 0], .bool false]) (by simp [results, Tryz.results391, go_sem, e0, e1, e2]) rfl ⟨rfl, HKK.out⟩
  · have h1 : 65536 ≤ x := hx.resolve_left h0
    have hd : decide (x < 0) = false := decide_eq_false h0
    clear hx h0
    go_enter Tryz.func391, Tryz.ntmps391
    go_wp2_with fail
    have e0 := HE0.out
    have e1 := HE1.out
    have e2 := HE2.out
    refine bodyPost_ret (v := .tuple #[.agg #[.int .i64 0, .int .i64 0, .int .i64 0], .bool false]) (by simp [results, Tryz.results391, go_sem, e0, e1, e2]) rfl ⟨rfl, HKK.out⟩

theorem flatSl_one (l : List SlotV) : ∀ u ∈ flatSl l, u.oneCell' = true := by
  intro u hu
  obtain ⟨o, _, ho⟩ := List.mem_flatMap.1 hu
  simp [SlotV.cells] at ho
  rcases ho with rfl | rfl | rfl | rfl | rfl <;> rfl

theorem run_make_slots (w : World) (n : Nat) (hn : n ≤ 2000000) :
    ∃ w', (Instr.makeSlice 436 (.int .i64 (n : Int)) (.int .i64 (n : Int))).run Tryz.prog w = .ok (.slice (some ⟨w.heap.size, 0, none⟩) n n) w' ∧
      Own (New w w') w' 504 5 (.slice (some ⟨w.heap.size, 0, none⟩) n n) n (flatSl (List.replicate n emptyS)) ∧ Keep w w' Nope := by
  obtain ⟨w', h1, h2, h3⟩ := run_make (P := Tryz.prog) (t := 436) (e := 504) (size := 5) (bytes := 40) (.agg #[.int .i64 0, .int .i64 0, .int .i64 0, .int .i64 0, .int .i64 0])
    Tryz.underlying436 (by kernel_rfl) rfl (by decide) .i64 .i64 n (by omega) (by unfold maxLen; omega) w
  rw [show (Value.agg #[.int .i64 0, .int .i64 0, .int .i64 0, .int .i64 0, .int .i64 0]).cells.toList = [Value.int .i64 0, .int .i64 0, .int .i64 0, .int .i64 0, .int .i64 0] from rfl, hash_flat_new] at h2
  exact ⟨w', h1, h2, h3⟩
set_option maxHeartbeats 1000000 in
theorem hash_new {w0 w : World} {L : List Asr} (H : St w0 w L) : Calls Tryz.prog 286 #[] w (fun e w' => ∃ b, e = .returned (.pointer (some ⟨b, 0, none⟩)) ∧ St w0 w' (L ++ [hashA b (List.replicate 8 emptyS)])) := by
  obtain ⟨w1, hmk, ho, hk⟩ := run_make_slots w 8 (by decide)
  have hmk' : (Instr.makeSlice 436 (.int .i64 8) (.int .i64 8)).run Tryz.prog w = .ok (.slice (some ⟨w.heap.size, 0, none⟩) 8 8) w1 := hmk
  have HO := Lib.hid ho
  have HK := Lib.hid hk
  have HH := Lib.hid H
  clear hmk ho hk H
  go_enter Tryz.func286, Tryz.ntmps286
  go_wp2_with fail
  go_ret
  refine ⟨_, rfl, ?_⟩
  refine HH.out.add (w' := w1.alloc _) (HK.out.alloc _) (A := hashA w1.heap.size (List.replicate 8 emptyS)) ⟨(some ⟨w.heap.size, 0, none⟩, 8), ?_⟩
  have hs := HK.out.size
  refine ⟨fun j x => (j = 0 ∧ x = w1.heap.size) ∨ (j = 1 ∧ New w w1 x), fun j A hj => ?_, fun j x hx => ?_, fun j k x hj hk => ?_⟩
  · rcases j with _ | _ | j
    · cases hj
      exact ⟨Blk.new w1 _ _, .inl ⟨rfl, rfl⟩⟩
    · cases hj
      exact (HO.out.alloc _).mono (fun x hx => .inr ⟨rfl, hx⟩)
    · cases hj
  · rcases hx with ⟨_, rfl⟩ | ⟨_, hx⟩
    · exact ⟨hs, by simp⟩
    · exact ⟨hx.1, by have := hx.2; simp; omega⟩
  · rcases hj with ⟨rfl, rfl⟩ | ⟨rfl, hj⟩ <;> rcases hk with ⟨rfl, hk⟩ | ⟨rfl, hk⟩
    · rfl
    · have := hk.2; omega
    · subst hk; have := hj.2; omega
    · rfl

end Go.Proofs.YtkiikblpgppmkaaGreatDoor

namespace Go.Proofs.YtkiikblpgppmkaaGreatDoor
open Go Go.RowKit
set_option linter.unusedVariables false
set_option linter.unusedSimpArgs false

theorem tail_get (P T : List Asr) (n k : Nat) (hk : P.length = n) : (P ++ T)[n + k]? = T[k]? := by
  subst hk
  rw [List.getElem?_append_right (by omega), Nat.add_sub_cancel_left]
theorem tail_set (P T : List Asr) (n k : Nat) (X : Asr) (hk : P.length = n) : (P ++ T).set (n + k) X = P ++ T.set k X := by
  subst hk
  rw [List.set_append_right _ _ (by omega), Nat.add_sub_cancel_left]
theorem flatSl_set3 (l : List SlotV) (q : Nat) (hq : q < l.length) (vk va vb : Int) :
    (((flatSl l).set (q * 5 + 2) (.int .i64 vk)).set (q * 5 + 3) (.int .i64 va)).set (q * 5 + 4) (.int .i64 vb) = flatSl (l.set q ⟨(sl l q).kind, (sl l q).idx, vk, va, vb⟩) := by
  have f := fun (y : SlotV) (j : Nat) (u : Value) (hj : j < 5) (l : List SlotV) (z : SlotV) (h : l[q]? = some z) (he : y.cells = z.cells.set j u) => flat_set SlotV.cells 5 (fun _ => rfl) y j u hj l q z h he
  have hs := sl_get hq
  obtain ⟨s, hs'⟩ : ∃ s, sl l q = s := ⟨_, rfl⟩
  rw [hs'] at hs ⊢
  unfold flatSl
  have h3 := f ⟨s.kind, s.idx, vk, s.va, s.vb⟩ 2 (.int .i64 vk) (by decide) l s hs rfl
  have h4 := f ⟨s.kind, s.idx, vk, va, s.vb⟩ 3 (.int .i64 va) (by decide) (l.set q ⟨s.kind, s.idx, vk, s.va, s.vb⟩) _ (List.getElem?_set_self hq) rfl
  have h5 := f ⟨s.kind, s.idx, vk, va, vb⟩ 4 (.int .i64 vb) (by decide) (l.set q ⟨s.kind, s.idx, vk, va, s.vb⟩) _ (List.getElem?_set_self hq) rfl
  rw [List.set_set] at h4 h5
  rw [h3, h4, h5]
theorem St.store3 {w0 w : World} {L : List Asr} {i g e' n c : Nat} {e : TypeId} {xs : List Value} (h : St w0 w L) (hi : L[i]? = some (slA e e' (.slice (some ⟨g, 0, none⟩) n c) n xs)) (hn : 0 < n) (j : Nat) (u0 u1 u2 : Value) :
    St w0 (((w.setCell ⟨g, j, none⟩ u0).setCell ⟨g, j + 1, none⟩ u1).setCell ⟨g, j + 2, none⟩ u2) (L.set i (slA e e' (.slice (some ⟨g, 0, none⟩) n c) n (((xs.set j u0).set (j + 1) u1).set (j + 2) u2))) := by
  have hil := (List.getElem?_eq_some_iff.1 hi).1
  have h1 := h.store1 hi hn j u0
  have h2 := h1.store1 (List.getElem?_set_self hil) hn (j + 1) u1
  rw [List.set_set] at h2
  have h3 := h2.store1 (List.getElem?_set_self hil) hn (j + 2) u2
  rw [List.set_set] at h3
  exact h3

set_option maxHeartbeats 1000000 in
theorem hash_Put_no (b : Nat) (x : Int) (hx : x < 0 ∨ 65536 ≤ x) (vk va vb : Int) (w : World) :
    Calls Tryz.prog 393 #[.pointer (some ⟨b, 0, none⟩), .int .i64 x, .agg #[.int .i64 vk, .int .i64 va, .int .i64 vb]] w (Ret w (.tuple #[zV, .bool false])) := by
  have hb := zero_res (w := w.alloc (.cells #[.int .i64 vk, .int .i64 va, .int .i64 vb] 34)) (Keep.refl _ Nope)
  have HKK := Lib.hid (((Keep.refl w Nope).alloc (.cells #[.int .i64 vk, .int .i64 va, .int .i64 vb] 34)).alloc (.cells #[.int .i64 0, .int .i64 0, .int .i64 0] 34))
  rw [World.size_alloc] at hb
  have e0 := hb.cell 0
  have e1 := hb.cell 1
  have e2 := hb.cell 2
  simp at e0 e1 e2
  have HE0 := Lib.hid e0
  have HE1 := Lib.hid e1
  have HE2 := Lib.hid e2
  clear hb e0 e1 e2
  by_cases h0 : x < 0
  · clear hx
    go_enter Tryz.func393, Tryz.ntmps393
    go_wp2_with fail
    have e0 := HE0.out
    have e1 := HE1.out
    have e2 := HE2.out
    refine bodyPost_ret (v := .tuple #[.agg #[.int .i64 0, .int .i64 0, .int .i64 0], .bool false]) (by simp [results, Tryz.results393, go_sem, e0, e1, e2]) rfl ⟨rfl, HKK.out⟩
  · have h1 : 65536 ≤ x := hx.resolve_left h0
    have hd : decide (x < 0) = false := decide_eq_false h0
    clear hx h0
    go_enter Tryz.func393, Tryz.ntmps393
    go_wp2_with fail
    have e0 := HE0.out
    have e1 := HE1.out
    have e2 := HE2.out
    refine bodyPost_ret (v := .tuple #[.agg #[.int .i64 0, .int .i64 0, .int .i64 0], .bool false]) (by simp [results, Tryz.results393, go_sem, e0, e1, e2]) rfl ⟨rfl, HKK.out⟩

set_option maxRecDepth 2000 in
set_option maxHeartbeats 2000000 in
theorem hash_Put_new {w0 w : World} {L : List Asr} {b : Nat} {l : List SlotV} (H : St w0 w L) (i : Nat) (hi : L[i]? = some (hashA b l)) (hT : HTab hmO l) (hP : Pow l.length) (hl : l.length ≤ 262144) (x : Int) (h0 : 0 ≤ x) (h1 : x < 65536) (vk va vb : Int) (q : Int) (hf : findS hmO l x = (-1, q)) (hno : ∀ p, p < l.length → (sl l p).kind = 1 → (sl l p).idx ≠ x) :
    Calls Tryz.prog 393 #[.pointer (some ⟨b, 0, none⟩), .int .i64 x, .agg #[.int .i64 vk, .int .i64 va, .int .i64 vb]] w (fun e w' => e = .returned (.tuple #[zV, .bool false]) ∧ St w0 w' (L.set i (hashA b (insS hmO (growS hmO l) x vk va vb)))) := by
  have HIL := Lib.hid (List.getElem?_eq_some_iff.1 hi).1
  have hA := (H.box #[.int .i64 vk, .int .i64 va, .int .i64 vb] 34).box #[.int .i64 0, .int .i64 0, .int .i64 0] 34
  rw [World.size_alloc, List.append_assoc] at hA
  have hi2 : (L ++ ([blkA w.heap.size #[.int .i64 vk, .int .i64 va, .int .i64 vb] 34] ++ [blkA (w.heap.size + 1) #[.int .i64 0, .int .i64 0, .int .i64 0] 34]))[i]? = some (hashA b l) := by rw [List.getElem?_append_left HIL.out]; exact hi
  have hC := hash_find hA i hi2 hT hP x h0 h1
  rw [hf] at hC
  have HC := Lib.hid hC
  have HA := Lib.hid hA
  have HI2 := Lib.hid hi2
  have HT := Lib.hid hT
  have HP := Lib.hid hP
  have h8 := hP.pos.1
  have hPN : Pow (newN l) := by
    unfold newN
    split
    · exact hP.twice (by omega)
    · exact hP
  obtain ⟨g1, g2, g3, g4, g5⟩ := hT.grow h8 hPN.home
  have hPG : Pow (growS hmO l).length := by rcases g5 with e | e <;> rw [e]; exact hP; exact hPN
  have hno2 : ∀ p, p < (growS hmO l).length → (sl (growS hmO l) p).kind = 1 → (sl (growS hmO l) p).idx ≠ x := by
    intro p hp hk he
    obtain ⟨p', a1, a2⟩ := (g4 x _ _ _).1 ⟨p, hp, (slot_eta _ hk).trans (by rw [he])⟩
    exact hno p' a1 (by rw [a2]) (by rw [a2])
  obtain ⟨q2, q1, qf, qk, qe, _⟩ := g1.ins ⟨h0, h1⟩ vk va vb hno2 g3
  have HG1 := Lib.hid g1
  have HPG := Lib.hid hPG
  have hc1 := cntK_le 1 l
  have HCC := Lib.hid (show cntK 1 (growS hmO l) ≤ 1000000 ∧ cntK 2 (growS hmO l) ≤ 1000000 by
    refine ⟨by rw [g2]; omega, ?_⟩
    have := cntK_le 2 (growS hmO l)
    have hh : newN l ≤ 2 * l.length := by unfold newN; split <;> omega
    rcases g5 with e | e <;> rw [e] at this <;> omega)
  have HQ := Lib.hid (show q2 < (growS hmO l).length ∧ findS hmO (growS hmO l) x = (-1, (q2 : Int)) ∧ (sl (growS hmO l) q2).kind ≠ 1 ∧ insS hmO (growS hmO l) x vk va vb = (growS hmO l).set q2 ⟨1, x, vk, va, vb⟩ from ⟨q1, qf, qk, qe⟩)
  clear H hi hA hi2 hC hf hno g1 g2 g3 g4 g5 hPG hPN hno2 q1 qf qk qe hT hP hc1
  go_enter Tryz.func393, Tryz.ntmps393
  go_wp2_with fail
  refine (HC.out).mono ?_
  rintro e w1 ⟨rfl, hk1⟩
  have H1 := Lib.hid (HA.out.keep hk1); clear hk1 HA HC
  go_wp2_with fail
  refine (hash_grow H1.out i HI2.out HT.out HP.out (by omega)).mono ?_
  rintro e w2 ⟨rfl, hst⟩
  rw [List.set_append_left _ _ HIL.out] at hst
  have H2 := Lib.hid hst; clear hst H1
  have v0 := (H2.out.blk (L.length + 0) (b := w.heap.size) (tail_get _ _ _ 0 (by simp))).cell 0
  have v1 := (H2.out.blk (L.length + 0) (b := w.heap.size) (tail_get _ _ _ 0 (by simp))).cell 1
  have v2 := (H2.out.blk (L.length + 0) (b := w.heap.size) (tail_get _ _ _ 0 (by simp))).cell 2
  simp at v0 v1 v2
  go_wp2_with fail
  refine (hash_put1 H2.out i (by rw [List.getElem?_append_left (by simpa using HIL.out), List.getElem?_set_self HIL.out]) HG1.out HPG.out x h0 h1 vk va vb q2 HQ.out.1 HQ.out.2.1 HQ.out.2.2.1 _ rfl HCC.out.1 HCC.out.2).mono ?_
  rintro e w3 ⟨rfl, hst⟩
  rw [List.set_append_left _ _ (by simpa using HIL.out), List.set_set, ← HQ.out.2.2.2] at hst
  have H3 := Lib.hid hst; clear hst H2 v0 v1 v2
  have hb := H3.out.blk (L.length + 1) (b := w.heap.size + 1) (tail_get _ _ _ 1 (by simp))
  have e0 := hb.cell 0
  have e1 := hb.cell 1
  have e2 := hb.cell 2
  have y0 := hb.frozen 0
  have y1 := hb.frozen 1
  have y2 := hb.frozen 2
  simp at e0 e1 e2
  have HB := Lib.hid hb
  clear hb
  go_wp2_with fail
  have hb5 := ((HB.out.setCell 0 (.int .i64 0)).setCell 1 (.int .i64 0)).setCell 2 (.int .i64 0)
  have e0 := hb5.cell 0
  have e1 := hb5.cell 1
  have e2 := hb5.cell 2
  simp at e0 e1 e2
  have k1 := H3.out.write (L.length + 1) (b := w.heap.size + 1) (tail_get _ _ _ 1 (by simp)) 0 (.int .i64 0)
  rw [tail_set _ _ _ 1 _ (by simp)] at k1
  have k2 := k1.write (L.length + 1) (b := w.heap.size + 1) (tail_get _ _ _ 1 (by simp)) 1 (.int .i64 0)
  rw [tail_set _ _ _ 1 _ (by simp)] at k2
  have k3 := k2.write (L.length + 1) (b := w.heap.size + 1) (tail_get _ _ _ 1 (by simp)) 2 (.int .i64 0)
  rw [tail_set _ _ _ 1 _ (by simp)] at k3
  have k4 := k3.take L.length
  rw [List.take_left' (by simp)] at k4
  have HE := Lib.hid k4
  clear hb5 k1 k2 k3 k4 y0 y1 y2
  refine bodyPost_ret (v := .tuple #[.agg #[.int .i64 0, .int .i64 0, .int .i64 0], .bool false]) (by simp [results, Tryz.results393, go_sem, e0, e1, e2]) rfl ⟨rfl, HE.out⟩

set_option maxRecDepth 2000 in
set_option maxHeartbeats 2000000 in
theorem hash_Put_old {w0 w : World} {L : List Asr} {b : Nat} {l : List SlotV} (H : St w0 w L) (i : Nat) (hi : L[i]? = some (hashA b l)) (hT : HTab hmO l) (hP : Pow l.length) (x : Int) (h0 : 0 ≤ x) (h1 : x < 65536) (vk va vb : Int) (p : Nat) (hp : p < l.length) (hf : findS hmO l x = ((p : Int), -1)) (hk1 : (sl l p).kind = 1) (hk2 : (sl l p).idx = x) :
    Calls Tryz.prog 393 #[.pointer (some ⟨b, 0, none⟩), .int .i64 x, .agg #[.int .i64 vk, .int .i64 va, .int .i64 vb]] w (fun e w' => e = .returned (.tuple #[(sl l p).val, .bool true]) ∧ St w0 w' (L.set i (hashA b (l.set p ⟨1, x, vk, va, vb⟩)))) := by
  have HIL := Lib.hid (List.getElem?_eq_some_iff.1 hi).1
  have hA := (H.box #[.int .i64 vk, .int .i64 va, .int .i64 vb] 34).box #[.int .i64 0, .int .i64 0, .int .i64 0] 34
  rw [World.size_alloc, List.append_assoc] at hA
  have hi2 : (L ++ ([blkA w.heap.size #[.int .i64 vk, .int .i64 va, .int .i64 vb] 34] ++ [blkA (w.heap.size + 1) #[.int .i64 0, .int .i64 0, .int .i64 0] 34]))[i]? = some (hashA b l) := by rw [List.getElem?_append_left HIL.out]; exact hi
  have hC := hash_find hA i hi2 hT hP x h0 h1
  rw [hf] at hC
  have HC := Lib.hid hC
  obtain ⟨⟨a, c⟩, h⟩ := hA.exSplit i hi2
  rw [List.set_append_left _ _ HIL.out, ← List.append_assoc] at h
  have hset := flatSl_set3 l p hp vk va vb
  rw [hk1, hk2] at hset
  have HSET := Lib.hid hset
  have k1 := cntK_set 1 ⟨1, x, vk, va, vb⟩ l p hp
  have k2 := cntK_set 2 ⟨1, x, vk, va, vb⟩ l p hp
  rw [hk1] at k1 k2
  have HK1 := Lib.hid (show cntK 1 (l.set p ⟨1, x, vk, va, vb⟩) = cntK 1 l by simpa using k1)
  have HK2 := Lib.hid (show cntK 2 (l.set p ⟨1, x, vk, va, vb⟩) = cntK 2 l by simpa using k2)
  obtain ⟨n, hn⟩ : ∃ n, l.length = n := ⟨_, rfl⟩
  obtain ⟨cf, hcf⟩ : ∃ cf, cntK 1 l = cf := ⟨_, rfl⟩
  obtain ⟨ct, hct⟩ : ∃ ct, cntK 2 l = ct := ⟨_, rfl⟩
  unfold hashPs at h
  rw [hn, hcf, hct] at h
  rw [hcf] at HK1
  rw [hct] at HK2
  have HN := Lib.hid hn
  have hpn : p < n := by rw [← hn]; exact hp
  have HPL := Lib.hid hp
  have HH := Lib.hid (show St w0 _ ((blkA b #[.int .i64 cf, .int .i64 ct, .slice a n c] 440 :: slA 504 5 (.slice a n c) n (flatSl l) :: L.set i empA) ++ [blkA w.heap.size #[.int .i64 vk, .int .i64 va, .int .i64 vb] 34, blkA (w.heap.size + 1) #[.int .i64 0, .int .i64 0, .int .i64 0] 34]) from h)
  clear H hi hA hi2 hC hf hT hP h k1 k2 hn hcf hct hp hset hk1 hk2
  go_enter Tryz.func393, Tryz.ntmps393
  go_wp2_with fail
  refine (HC.out).mono ?_
  rintro e w1 ⟨rfl, hk1⟩
  have H1 := Lib.hid (HH.out.keep hk1); clear hk1 HH HC
  have c2 := (H1.out.blk 0 (b := b) rfl).cell 2
  simp at c2
  obtain ⟨g, rfl, hgl, hgf, hgc, _⟩ := H1.out.store 1 (n := n) (a := a) (c := c) rfl (by omega)
  have fg := fun j (hj : j < 5) => flat_get SlotV.cells 5 (fun _ => rfl) l p j _ (sl_get HPL.out) hj
  have y2 := hgc (p * 5 + 2) (by omega)
  have y3 := hgc (p * 5 + 3) (by omega)
  have y4 := hgc (p * 5 + 4) (by omega)
  rw [show (flatSl l)[p * 5 + 2]? = _ from fg 2 (by decide)] at y2
  rw [show (flatSl l)[p * 5 + 3]? = _ from fg 3 (by decide)] at y3
  rw [show (flatSl l)[p * 5 + 4]? = _ from fg 4 (by decide)] at y4
  simp [SlotV.cells] at y2 y3 y4
  obtain ⟨s, hs⟩ : ∃ s, sl l p = s := ⟨_, rfl⟩
  rw [hs] at y2 y3 y4
  have HS := Lib.hid hs
  obtain ⟨sk, sx, sa, sb, sc⟩ := s
  simp only at y2 y3 y4
  have hpi : (p : Int) < n := by omega
  have hcap : n ≤ c ∧ c ≤ maxLen := by obtain ⟨_, ho, _⟩ := H1.out.rd 1 (n := n) rfl; exact ho.cap
  unfold maxLen at hcap
  clear hgf hgc fg hs
  go_upto_region 6 with (fail)
  have h2 := H1.out.box #[.int .i64 sa, .int .i64 sb, .int .i64 sc] 34
  rw [List.append_assoc] at h2
  have H2 := Lib.hid h2
  obtain ⟨w2, hw2⟩ : ∃ w2, w2 = w1.alloc (.cells #[.int .i64 sa, .int .i64 sb, .int .i64 sc] 34) := ⟨_, rfl⟩
  rw [← hw2] at H2
  rw [← hw2]
  clear h2 y2 y3 y4 c2 hgl H1
  have c2 := (H2.out.blk 0 (b := b) rfl).cell 2
  have q0 := (H2.out.blk (2 + L.length + 0) (b := w.heap.size) (tail_get _ _ _ 0 (by simp; omega))).cell 0
  have q1 := (H2.out.blk (2 + L.length + 0) (b := w.heap.size) (tail_get _ _ _ 0 (by simp; omega))).cell 1
  have q2 := (H2.out.blk (2 + L.length + 0) (b := w.heap.size) (tail_get _ _ _ 0 (by simp; omega))).cell 2
  simp at c2 q0 q1 q2
  obtain ⟨g', he, hgl, hgf, hgc, _⟩ := H2.out.store 1 (n := n) (a := some ⟨g, 0, none⟩) (c := c) rfl (by omega)
  injection he with he
  injection he with he
  subst he
  have fg := fun j (hj : j < 5) => flat_get SlotV.cells 5 (fun _ => rfl) l p j _ (sl_get HPL.out) hj
  have y2 := hgc (p * 5 + 2) (by omega)
  have y3 := hgc (p * 5 + 3) (by omega)
  have y4 := hgc (p * 5 + 4) (by omega)
  rw [show (flatSl l)[p * 5 + 2]? = _ from fg 2 (by decide)] at y2
  rw [show (flatSl l)[p * 5 + 3]? = _ from fg 3 (by decide)] at y3
  rw [show (flatSl l)[p * 5 + 4]? = _ from fg 4 (by decide)] at y4
  simp [SlotV.cells] at y2 y3 y4
  have z2 := hgf (p * 5 + 2)
  have z3 := hgf (p * 5 + 3)
  have z4 := hgf (p * 5 + 4)
  clear hgf hgc fg hgl hw2
  refine wp_region_M (r := 6) (S := fun w' => w'.cell? ⟨b, 2, none⟩ = some (.slice (some ⟨g, 0, none⟩) n c) ∧ w'.cell? ⟨w.heap.size, 0, none⟩ = some (.int .i64 vk) ∧ w'.cell? ⟨w.heap.size, 1, none⟩ = some (.int .i64 va) ∧ w'.cell? ⟨w.heap.size, 2, none⟩ = some (.int .i64 vb)) (by kernel_rfl) ?_ (fun hHeld => ?_)
  · (try dsimp only); go_keep
  (refine wpAnyM_takeP (i := 0) (oi := ?_) (v := ?_) ?_ ?_ ?_ ?_ ?_ ?_ ?_ ?_ ?_; rotate_left 2; (· simp only [List.getElem?_toArray, List.getElem?_cons_succ, List.getElem?_cons_zero]; exact rfl); (· kernel_rfl); (· kernel_rfl); (· kernel_rfl); (· kernel_rfl); (· first | exact fun _ _ _ h => h | exact fun _ _ _ h => (HPan.out _ _ _ h).elim); (· (refine Or.inl ⟨by rfl, ?_⟩; (intro w hSw; (try dsimp only at hSw); go_simp) <;> with_reducible rfl)); (· exact fun _ => hHeld); simp only [Act.put, List.setIfInBounds_toArray, List.set_cons_zero, List.set_cons_succ])
  (refine wpAnyM_takeP (i := 1) (oi := ?_) (v := ?_) ?_ ?_ ?_ ?_ ?_ ?_ ?_ ?_ ?_; rotate_left 2; (· simp only [List.getElem?_toArray, List.getElem?_cons_succ, List.getElem?_cons_zero]; exact rfl); (· kernel_rfl); (· kernel_rfl); (· kernel_rfl); (· kernel_rfl); (· first | exact fun _ _ _ h => h | exact fun _ _ _ h => (HPan.out _ _ _ h).elim); (· (refine Or.inl ⟨by rfl, ?_⟩; (intro w hSw; (try dsimp only at hSw); go_simp) <;> with_reducible rfl)); (· exact fun _ => hHeld); simp only [Act.put, List.setIfInBounds_toArray, List.set_cons_zero, List.set_cons_succ])
  (refine wpAnyM_takeP (i := 2) (oi := ?_) (v := ?_) ?_ ?_ ?_ ?_ ?_ ?_ ?_ ?_ ?_; rotate_left 2; (· simp only [List.getElem?_toArray, List.getElem?_cons_succ, List.getElem?_cons_zero]; exact rfl); (· kernel_rfl); (· kernel_rfl); (· kernel_rfl); (· kernel_rfl); (· first | exact fun _ _ _ h => h | exact fun _ _ _ h => (HPan.out _ _ _ h).elim); (· (refine Or.inl ⟨by rfl, ?_⟩; (intro w hSw; (try dsimp only at hSw); go_simp) <;> with_reducible rfl)); (· exact fun _ => hHeld); simp only [Act.put, List.setIfInBounds_toArray, List.set_cons_zero, List.set_cons_succ])
  (refine wpAnyM_take (i := 3) (oi := ?_) (v := ?_) ?_ ?_ ?_ ?_ ?_ ?_ ?_ ?_ ?_ ?_; rotate_left 2; (· simp only [List.getElem?_toArray, List.getElem?_cons_succ, List.getElem?_cons_zero]; exact rfl); (· kernel_rfl); (· kernel_rfl); (· kernel_rfl); (· kernel_rfl); (· kernel_rfl); (· first | exact fun _ _ _ h => h | exact fun _ _ _ h => (HPan.out _ _ _ h).elim); (· (refine Or.inl ⟨by rfl, ?_⟩; (intro w hSw; (try dsimp only at hSw); go_simp) <;> with_reducible rfl)); (· assumption); simp only [Act.put, List.setIfInBounds_toArray, List.set_cons_zero, List.set_cons_succ])
  (refine wpAnyM_takeP (i := 4) (oi := ?_) (v := ?_) ?_ ?_ ?_ ?_ ?_ ?_ ?_ ?_ ?_; rotate_left 2; (· simp only [List.getElem?_toArray, List.getElem?_cons_succ, List.getElem?_cons_zero]; exact rfl); (· kernel_rfl); (· kernel_rfl); (· kernel_rfl); (· kernel_rfl); (· first | exact fun _ _ _ h => h | exact fun _ _ _ h => (HPan.out _ _ _ h).elim); (· (refine Or.inl ⟨by rfl, ?_⟩; (intro w hSw; (try dsimp only at hSw); go_simp) <;> with_reducible rfl)); (· exact fun _ => hHeld); simp only [Act.put, List.setIfInBounds_toArray, List.set_cons_zero, List.set_cons_succ])
  (refine wpAnyM_take (i := 5) (oi := ?_) (v := ?_) ?_ ?_ ?_ ?_ ?_ ?_ ?_ ?_ ?_ ?_; rotate_left 2; (· simp only [List.getElem?_toArray, List.getElem?_cons_succ, List.getElem?_cons_zero]; exact rfl); (· kernel_rfl); (· kernel_rfl); (· kernel_rfl); (· kernel_rfl); (· kernel_rfl); (· first | exact fun _ _ _ h => h | exact fun _ _ _ h => (HPan.out _ _ _ h).elim); (· (refine Or.inl ⟨by rfl, ?_⟩; (intro w hSw; (try dsimp only at hSw); go_simp) <;> with_reducible rfl)); (· assumption); simp only [Act.put, List.setIfInBounds_toArray, List.set_cons_zero, List.set_cons_succ])
  refine wpAnyM_ready (rs := [6]) (by kernel_rfl) (by simp) ?_
  refine AllReadyM.free (o := ?_) ?_ (by kernel_rfl) ?_ ?_
  rotate_left 1
  · simp only [List.getElem?_toArray, List.getElem?_cons_succ, List.getElem?_cons_zero]; exact rfl
  rotate_left 1
  · exact AllReadyM.nil
  intro K hK
  go_simp
  refine hK.out _ _ ?_
  clear hK K
  (refine wpAnyM_takeP (i := 7) (oi := ?_) (v := ?_) ?_ ?_ ?_ ?_ ?_ ?_ ?_ ?_ ?_; rotate_left 2; (· simp only [List.getElem?_toArray, List.getElem?_cons_succ, List.getElem?_cons_zero]; exact rfl); (· kernel_rfl); (· kernel_rfl); (· kernel_rfl); (· kernel_rfl); (· first | exact fun _ _ _ h => h | exact fun _ _ _ h => (HPan.out _ _ _ h).elim); (· (refine Or.inl ⟨by rfl, ?_⟩; (intro w hSw; (try dsimp only at hSw); go_simp) <;> with_reducible rfl)); (· exact fun h => Bool.noConfusion (show true = false from h)); simp only [Act.put, List.setIfInBounds_toArray, List.set_cons_zero, List.set_cons_succ])
  refine wpAnyM_ready (rs := [8]) (by kernel_rfl) (by simp) ?_
  refine AllReadyM.free (o := ?_) ?_ (by kernel_rfl) ?_ ?_
  rotate_left 1
  · simp only [List.getElem?_toArray, List.getElem?_cons_succ, List.getElem?_cons_zero]; exact rfl
  rotate_left 1
  · exact AllReadyM.nil
  intro K hK
  go_simp
  refine hK.out _ _ ?_
  clear hK K
  refine wpAnyM_done (by kernel_rfl) ?_ _
  have h3 := (H2.out.store3 (i := 1) rfl (by omega) (p * 5 + 2) (.int .i64 vk) (.int .i64 va) (.int .i64 vb)).drew
  obtain ⟨w3, hw3⟩ : ∃ w3, w3 = (((w2.setCell ⟨g, p * 5 + 2, none⟩ (.int .i64 vk)).setCell ⟨g, p * 5 + 3, none⟩ (.int .i64 va)).setCell ⟨g, p * 5 + 4, none⟩ (.int .i64 vb)).drew := ⟨_, rfl⟩
  rw [show (((flatSl l).set (p * 5 + 2) (.int .i64 vk)).set (p * 5 + 2 + 1) (.int .i64 va)).set (p * 5 + 2 + 2) (.int .i64 vb) = flatSl (l.set p ⟨1, x, vk, va, vb⟩) from HSET.out] at h3
  have H3 := Lib.hid (show St w0 w3 ((blkA b #[.int .i64 cf, .int .i64 ct, .slice (some ⟨g, 0, none⟩) n c] 440 :: slA 504 5 (.slice (some ⟨g, 0, none⟩) n c) n (flatSl (l.set p ⟨1, x, vk, va, vb⟩)) :: L.set i empA) ++ [blkA w.heap.size #[.int .i64 vk, .int .i64 va, .int .i64 vb] 34, blkA (w.heap.size + 1) #[.int .i64 0, .int .i64 0, .int .i64 0] 34, blkA w1.heap.size #[.int .i64 sa, .int .i64 sb, .int .i64 sc] 34]) from hw3 ▸ h3)
  rw [← hw3]
  clear h3 hw3 H2 c2 q0 q1 q2 y2 y3 y4 z2 z3 z4 hHeld
  have hbw := H3.out.blk (2 + L.length + 2) (b := w1.heap.size) (tail_get _ _ _ 2 (by simp; omega))
  have u0 := hbw.cell 0
  have u1 := hbw.cell 1
  have u2 := hbw.cell 2
  have hb := H3.out.blk (2 + L.length + 1) (b := w.heap.size + 1) (tail_get _ _ _ 1 (by simp; omega))
  have e0 := hb.cell 0
  have e1 := hb.cell 1
  have e2 := hb.cell 2
  have y0 := hb.frozen 0
  have y1 := hb.frozen 1
  have y2 := hb.frozen 2
  simp at e0 e1 e2 u0 u1 u2
  have HB := Lib.hid hb
  clear hb hbw
  go_wp2_with fail
  rw [HS.out]
  have hb5 := ((HB.out.setCell 0 (.int .i64 sa)).setCell 1 (.int .i64 sb)).setCell 2 (.int .i64 sc)
  have e0 := hb5.cell 0
  have e1 := hb5.cell 1
  have e2 := hb5.cell 2
  simp at e0 e1 e2
  have k1 := H3.out.write (2 + L.length + 1) (b := w.heap.size + 1) (tail_get _ _ _ 1 (by simp; omega)) 0 (.int .i64 sa)
  rw [tail_set _ _ _ 1 _ (by simp; omega)] at k1
  have k2 := k1.write (2 + L.length + 1) (b := w.heap.size + 1) (tail_get _ _ _ 1 (by simp; omega)) 1 (.int .i64 sb)
  rw [tail_set _ _ _ 1 _ (by simp; omega)] at k2
  have k3 := k2.write (2 + L.length + 1) (b := w.heap.size + 1) (tail_get _ _ _ 1 (by simp; omega)) 2 (.int .i64 sc)
  rw [tail_set _ _ _ 1 _ (by simp; omega)] at k3
  have k4 := k3.take (2 + L.length)
  rw [List.take_left' (by simp; omega)] at k4
  have k5 := St.exJoin (hashPs b (l.set p ⟨1, x, vk, va, vb⟩)) (some ⟨g, 0, none⟩, c) (L := L) i HIL.out (by
    unfold hashPs
    rw [HK1.out, HK2.out, List.length_set, HN.out]
    exact k4)
  have HE := Lib.hid k5
  clear hb5 k1 k2 k3 k4 k5 y0 y1 y2 u0 u1 u2
  refine bodyPost_ret (v := .tuple #[.agg #[.int .i64 sa, .int .i64 sb, .int .i64 sc], .bool true]) (by simp [results, Tryz.results393, go_sem, e0, e1, e2]) rfl ⟨rfl, HE.out⟩
end Go.Proofs.YtkiikblpgppmkaaGreatDoor

namespace Go.Proofs.YtkiikblpgppmkaaGreatDoor
open Go Go.RowKit
set_option linter.unusedVariables false
set_option linter.unusedSimpArgs false
def tab0 : List SlotV := List.replicate 8 emptyS
theorem tab0_ok : HTab hmO tab0 ∧ cntK 1 tab0 = 0 ∧ cntK 2 tab0 = 0 ∧ ∀ j a b c, ¬ Has tab0 j a b c := HTab.new 8 (by decide) Pow.eight.home
theorem tab0_no (x : Int) : ∀ p, p < tab0.length → (sl tab0 p).kind = 1 → (sl tab0 p).idx ≠ x := fun p hp hk he => tab0_ok.2.2.2 _ _ _ _ ⟨p, hp, slot_eta _ hk⟩

set_option maxHeartbeats 1000000 in
theorem hash_take_miss (b : Nat) (x : Int) (w : World) (hG : Calls Tryz.prog 391 #[.pointer (some ⟨b, 0, none⟩), .int .i64 x] (w.alloc (.cells #[.int .i64 0, .int .i64 0, .int .i64 0] 34)) (Ret (w.alloc (.cells #[.int .i64 0, .int .i64 0, .int .i64 0] 34)) (.tuple #[zV, .bool false]))) :
    Calls Tryz.prog 394 #[.pointer (some ⟨b, 0, none⟩), .int .i64 x] w (Ret w (.tuple #[zV, .bool false])) := by
  have HG := Lib.hid hG; clear hG
  go_enter Tryz.func394, Tryz.ntmps394
  go_wp2_with fail
  refine (HG.out).mono ?_
  rintro e w1 ⟨rfl, hk1⟩
  unfold zV
  have hb := (zero_res hk1).alloc (.cells #[.int .i64 0, .int .i64 0, .int .i64 0] 34)
  have hx := Blk.new w1 #[.int .i64 0, .int .i64 0, .int .i64 0] 34
  have HKK := Lib.hid (show Keep w (w1.alloc (.cells #[.int .i64 0, .int .i64 0, .int .i64 0] 34)) Nope from (((Keep.refl w Nope).alloc _).trans hk1 (fun _ f => f.elim)).alloc _)
  have HBB := Lib.hid hb
  have HX := Lib.hid hx
  clear hk1 hb hx
  go_upto_region 2 with (fail)
  obtain ⟨w2, hw2⟩ : ∃ w2, w2 = w1.alloc (.cells #[.int .i64 0, .int .i64 0, .int .i64 0] 34) := ⟨_, rfl⟩
  rw [← hw2] at HBB HX HKK ⊢
  clear hw2
  have z0 := HBB.out.cell 0
  have z1 := HBB.out.cell 1
  have z2 := HBB.out.cell 2
  have y0 := HBB.out.frozen 0
  have y1 := HBB.out.frozen 1
  have y2 := HBB.out.frozen 2
  have x0 := HX.out.cell 0
  have x1 := HX.out.cell 1
  have x2 := HX.out.cell 2
  simp at z0 z1 z2 x0 x1 x2
  go_wp2_with fail
  have hb5 := ((HBB.out.setCell 0 (.int .i64 0)).setCell 1 (.int .i64 0)).setCell 2 (.int .i64 0)
  have e0 := hb5.cell 0
  have e1 := hb5.cell 1
  have e2 := hb5.cell 2
  simp at e0 e1 e2
  have HE := Lib.hid (keep3 HKK.out (.int .i64 0) (.int .i64 0) (.int .i64 0))
  clear hb5 z0 z1 z2 y0 y1 y2 x0 x1 x2
  refine bodyPost_ret (v := .tuple #[.agg #[.int .i64 0, .int .i64 0, .int .i64 0], .bool false]) (by simp [results, Tryz.results394, go_sem, e0, e1, e2]) rfl ⟨rfl, HE.out⟩

set_option maxRecDepth 2000 in
set_option maxHeartbeats 2000000 in
theorem hash_take_yes {w0 w : World} {L : List Asr} {b : Nat} {l : List SlotV} (H : St w0 w L) (i : Nat) (hi : L[i]? = some (hashA b l)) (hT : HTab hmO l) (hP : Pow l.length) (x : Int) (h0 : 0 ≤ x) (h1 : x < 65536) (p : Nat) (hp : p < l.length) (hf : findS hmO l x = ((p : Int), -1)) (hk1 : (sl l p).kind = 1) :
    Calls Tryz.prog 394 #[.pointer (some ⟨b, 0, none⟩), .int .i64 x] w (fun e w' => e = .returned (.tuple #[(sl l p).val, .bool true]) ∧ St w0 w' (L.set i (hashA b (l.set p tombS)))) := by
  have HIL := Lib.hid (List.getElem?_eq_some_iff.1 hi).1
  have hA := H.box #[.int .i64 0, .int .i64 0, .int .i64 0] 34
  have hi2 : (L ++ [blkA w.heap.size #[.int .i64 0, .int .i64 0, .int .i64 0] 34])[i]? = some (hashA b l) := by rw [List.getElem?_append_left HIL.out]; exact hi
  have HG := Lib.hid (hash_get_yes hA i hi2 hT hP x h0 h1 p hp hf)
  obtain ⟨s, hs⟩ : ∃ s, sl l p = s := ⟨_, rfl⟩
  have HC := Lib.hid (fun (w9 : World) (M : List Asr) (h9 : St w0 w9 (L ++ M)) => (show Calls Tryz.prog 396 #[.pointer (some ⟨b, 0, none⟩), .int .i64 x] w9 (Ret w9 (.tuple #[.int .i64 (p : Int), .int .i64 (-1)])) from by
    have hC := hash_find h9 i (by rw [List.getElem?_append_left HIL.out]; exact hi) hT hP x h0 h1
    rw [hf] at hC
    exact hC))
  have k1 := cntK_set 1 tombS l p hp
  have k2 := cntK_set 2 tombS l p hp
  rw [hk1] at k1 k2
  simp [tombS] at k1 k2
  have hcl := cntK_le 1 l
  have hcl2 := cntK_le 2 l
  have hset := flatSl_set5 l p hp 2 0 0 0 0
  have HSET := Lib.hid hset
  have HI := Lib.hid hi
  rw [hs] at HG ⊢
  have HS := Lib.hid hs
  obtain ⟨n, hn⟩ : ∃ n, l.length = n := ⟨_, rfl⟩
  obtain ⟨cf, hcf⟩ : ∃ cf, cntK 1 l = cf := ⟨_, rfl⟩
  obtain ⟨ct, hct⟩ : ∃ ct, cntK 2 l = ct := ⟨_, rfl⟩
  rw [hcf] at k1 hcl
  rw [hct] at k2 hcl2
  have HK1 := Lib.hid k1
  have HK2 := Lib.hid k2
  have HN := Lib.hid hn
  have HCF := Lib.hid hcf
  have HCT := Lib.hid hct
  have HPL := Lib.hid hp
  have hnb := hP.pos.2
  rw [hn] at hcl hcl2 hnb hp
  have HA := Lib.hid hA
  have hcf1 : 1 ≤ cf := by omega
  clear H hi hA hi2 hT hP hf hk1 hs k1 k2 hset hn hcf hct
  obtain ⟨sk, sx, sa, sb, sc⟩ := s
  simp only [SlotV.val] at HG ⊢
  go_enter Tryz.func394, Tryz.ntmps394
  go_wp2_with fail
  refine (HG.out).mono ?_
  rintro e w1 ⟨rfl, hk⟩
  have h2 := (HA.out.keep hk).box #[.int .i64 sa, .int .i64 sb, .int .i64 sc] 34
  rw [List.append_assoc] at h2
  have H2 := Lib.hid h2
  clear h2 hk HA HG
  go_wp2_with fail
  refine (HC.out _ _ H2.out).mono ?_
  rintro e w3 ⟨rfl, hk⟩
  obtain ⟨⟨a, c⟩, h3⟩ := (H2.out.keep hk).exSplit i (by rw [List.getElem?_append_left HIL.out]; exact HI.out)
  rw [List.set_append_left _ _ HIL.out, ← List.append_assoc] at h3
  unfold hashPs at h3
  rw [HN.out, HCF.out, HCT.out] at h3
  have H3 := Lib.hid (show St w0 w3 ((blkA b #[.int .i64 cf, .int .i64 ct, .slice a n c] 440 :: slA 504 5 (.slice a n c) n (flatSl l) :: L.set i empA) ++ [blkA w.heap.size #[.int .i64 0, .int .i64 0, .int .i64 0] 34, blkA w1.heap.size #[.int .i64 sa, .int .i64 sb, .int .i64 sc] 34]) from h3)
  clear h3 hk H2 HC HI
  have c2 := (H3.out.blk 0 (b := b) rfl).cell 2
  simp at c2
  obtain ⟨g, rfl, hgl, hgf, hgc, _⟩ := H3.out.store 1 (n := n) (a := a) (c := c) rfl (by omega)
  have fg := fun j (hj : j < 5) => flat_get SlotV.cells 5 (fun _ => rfl) l p j _ (sl_get HPL.out) hj
  have y0 := hgc (p * 5 + 0) (by omega)
  have y1 := hgc (p * 5 + 1) (by omega)
  have y2 := hgc (p * 5 + 2) (by omega)
  have y3 := hgc (p * 5 + 3) (by omega)
  have y4 := hgc (p * 5 + 4) (by omega)
  rw [show (flatSl l)[p * 5 + 0]? = _ from fg 0 (by decide)] at y0
  rw [show (flatSl l)[p * 5 + 1]? = _ from fg 1 (by decide)] at y1
  rw [show (flatSl l)[p * 5 + 2]? = _ from fg 2 (by decide)] at y2
  rw [show (flatSl l)[p * 5 + 3]? = _ from fg 3 (by decide)] at y3
  rw [show (flatSl l)[p * 5 + 4]? = _ from fg 4 (by decide)] at y4
  simp [SlotV.cells] at y0 y1 y2 y3 y4
  have z0 := hgf (p * 5)
  have z1 := hgf (p * 5 + 1)
  have z2 := hgf (p * 5 + 2)
  have z3 := hgf (p * 5 + 3)
  have z4 := hgf (p * 5 + 4)
  have hpi : (p : Int) < n := by omega
  have hcap : n ≤ c ∧ c ≤ maxLen := by obtain ⟨_, ho, _⟩ := H3.out.rd 1 (n := n) rfl; exact ho.cap
  unfold maxLen at hcap
  clear hgf hgc fg hgl
  go_upto_region 5 with (fail)
  have h4 := H3.out.store5 (i := 1) rfl (by omega) (p * 5) (.int .i64 2) (.int .i64 0) (.int .i64 0) (.int .i64 0) (.int .i64 0)
  rw [HSET.out] at h4
  obtain ⟨w4, hw4⟩ : ∃ w4, w4 = ((((w3.setCell ⟨g, p * 5, none⟩ (.int .i64 2)).setCell ⟨g, p * 5 + 1, none⟩ (.int .i64 0)).setCell ⟨g, p * 5 + 2, none⟩ (.int .i64 0)).setCell ⟨g, p * 5 + 3, none⟩ (.int .i64 0)).setCell ⟨g, p * 5 + 4, none⟩ (.int .i64 0) := ⟨_, rfl⟩
  rw [← hw4] at h4 ⊢
  have H4 := Lib.hid (show St w0 w4 ((blkA b #[.int .i64 cf, .int .i64 ct, .slice (some ⟨g, 0, none⟩) n c] 440 :: slA 504 5 (.slice (some ⟨g, 0, none⟩) n c) n (flatSl (l.set p tombS)) :: L.set i empA) ++ [blkA w.heap.size #[.int .i64 0, .int .i64 0, .int .i64 0] 34, blkA w1.heap.size #[.int .i64 sa, .int .i64 sb, .int .i64 sc] 34]) from h4)
  clear h4 hw4 H3 y0 y1 y2 y3 y4 z0 z1 z2 z3 z4 c2
  have c0 := (H4.out.blk 0 (b := b) rfl).cell 0
  have c1 := (H4.out.blk 0 (b := b) rfl).cell 1
  have f0 := (H4.out.blk 0 (b := b) rfl).frozen 0
  have f1 := (H4.out.blk 0 (b := b) rfl).frozen 1
  simp at c0 c1
  go_upto_region 7 with (fail)
  have h5 := (H4.out.write 0 (b := b) rfl 0 (.int .i64 ((cf : Int) - 1))).write 0 (b := b) rfl 1 (.int .i64 ((ct : Int) + 1))
  obtain ⟨w5, hw5⟩ : ∃ w5, w5 = (w4.setCell ⟨b, 0, none⟩ (.int .i64 ((cf : Int) - 1))).setCell ⟨b, 1, none⟩ (.int .i64 ((ct : Int) + 1)) := ⟨_, rfl⟩
  rw [← hw5] at h5 ⊢
  have H5 := Lib.hid (show St w0 w5 ((blkA b #[.int .i64 ((cf : Int) - 1), .int .i64 ((ct : Int) + 1), .slice (some ⟨g, 0, none⟩) n c] 440 :: slA 504 5 (.slice (some ⟨g, 0, none⟩) n c) n (flatSl (l.set p tombS)) :: L.set i empA) ++ [blkA w.heap.size #[.int .i64 0, .int .i64 0, .int .i64 0] 34, blkA w1.heap.size #[.int .i64 sa, .int .i64 sb, .int .i64 sc] 34]) from h5)
  clear h5 hw5 H4 c0 c1 f0 f1
  have hbw := H5.out.blk (2 + L.length + 1) (b := w1.heap.size) (tail_get _ _ _ 1 (by simp; omega))
  have u0 := hbw.cell 0
  have u1 := hbw.cell 1
  have u2 := hbw.cell 2
  have hb := H5.out.blk (2 + L.length + 0) (b := w.heap.size) (tail_get _ _ _ 0 (by simp; omega))
  have e0 := hb.cell 0
  have e1 := hb.cell 1
  have e2 := hb.cell 2
  have y0 := hb.frozen 0
  have y1 := hb.frozen 1
  have y2 := hb.frozen 2
  simp at e0 e1 e2 u0 u1 u2
  have HB := Lib.hid hb
  clear hb hbw
  go_wp2_with fail
  have hb5 := ((HB.out.setCell 0 (.int .i64 sa)).setCell 1 (.int .i64 sb)).setCell 2 (.int .i64 sc)
  have e0 := hb5.cell 0
  have e1 := hb5.cell 1
  have e2 := hb5.cell 2
  simp at e0 e1 e2
  have k1 := H5.out.write (2 + L.length + 0) (b := w.heap.size) (tail_get _ _ _ 0 (by simp; omega)) 0 (.int .i64 sa)
  rw [tail_set _ _ _ 0 _ (by simp; omega)] at k1
  have k2 := k1.write (2 + L.length + 0) (b := w.heap.size) (tail_get _ _ _ 0 (by simp; omega)) 1 (.int .i64 sb)
  rw [tail_set _ _ _ 0 _ (by simp; omega)] at k2
  have k3 := k2.write (2 + L.length + 0) (b := w.heap.size) (tail_get _ _ _ 0 (by simp; omega)) 2 (.int .i64 sc)
  rw [tail_set _ _ _ 0 _ (by simp; omega)] at k3
  have k4 := k3.take (2 + L.length)
  rw [List.take_left' (by simp; omega)] at k4
  have c1 : ((cntK 1 (l.set p tombS) : Nat) : Int) = (cf : Int) - 1 := by have := HK1.out; unfold tombS; omega
  have c2 : ((cntK 2 (l.set p tombS) : Nat) : Int) = (ct : Int) + 1 := by have := HK2.out; unfold tombS; omega
  have k5 := St.exJoin (hashPs b (l.set p tombS)) (some ⟨g, 0, none⟩, c) (L := L) i HIL.out (by
    unfold hashPs
    rw [c1, c2, List.length_set, HN.out]
    exact k4)
  have HE := Lib.hid k5
  clear hb5 k1 k2 k3 k4 k5 y0 y1 y2 u0 u1 u2 c1 c2
  refine bodyPost_ret (v := .tuple #[.agg #[.int .i64 sa, .int .i64 sb, .int .i64 sc], .bool true]) (by simp [results, Tryz.results394, go_sem, e0, e1, e2]) rfl ⟨rfl, HE.out⟩
end Go.Proofs.YtkiikblpgppmkaaGreatDoor
