/-
  HashPlays: any script, by both.
-/
import Derived.Test.YtcmbbkaioopkhaaHashPl3
namespace Go.Proofs.Ytcmbbkaioopkhaa
open Go Go.RowKit
set_option linter.unusedVariables false
set_option linter.unusedSimpArgs false

theorem tab_new {w0 w : World} {L : List Asr} (H : St w0 w L) : St w0 (w.alloc (.cells #[.slice none 0 0] 62)) (L ++ [tabA w.heap.size []]) := by
  refine H.add ((Keep.refl w Nope).alloc _) (A := tabA w.heap.size []) ⟨(none, 0), ?_⟩
  refine ⟨fun j x => j = 0 ∧ x = w.heap.size, fun j A hj => ?_, fun j x hx => ?_, fun j k x hj hk => hj.1.trans hk.1.symm⟩
  · rcases j with _ | _ | j
    · cases hj
      exact ⟨Blk.new w _ _, rfl, rfl⟩
    · cases hj
      exact Own.nil _ _ _ _
    · cases hj
  · obtain ⟨_, rfl⟩ := hx
    exact ⟨Nat.le_refl _, by simp⟩
theorem awake9_keep (w : World) : Calls Try.prog 14 #[] w (fun e w' => e = .returned (.bool true) ∧ Keep w w' Nope) :=
  (awake9 w).mono fun e w' ⟨h1, h2⟩ => ⟨h1, ⟨h2.os, h2.tape, h2.output, h2.size, fun k hk _ => h2.block k hk⟩⟩

def LoopPl (w : World) (bd bt bw N : Nat) (g : Nat) (v6 : Value) (wr : World) : Prop :=
  ∃ (i : Nat) (l : List SlotV) (rows : List RowT), g + i = N ∧ i ≤ 100 ∧ v6 = .int .i64 i ∧ HInv l i ∧ TRel l rows ∧ St w wr [hashA bd l, tabA bt rows, rhA bw l]
theorem stepS_put (l : List SlotV) (x vk va vb : Int) : stepS l ⟨0, x, vk, va, vb⟩ = if okI x then putS hmO l x vk va vb else l := rfl
theorem stepS_take (l : List SlotV) (x vk va vb : Int) : stepS l ⟨1, x, vk, va, vb⟩ = if okI x then takeS hmO l x else l := rfl
theorem stepS_get (l : List SlotV) (k x vk va vb : Int) (h0 : k ≠ 0) (h1 : k ≠ 1) : stepS l ⟨k, x, vk, va, vb⟩ = l := by unfold stepS; rw [if_neg h0, if_neg h1]

set_option maxRecDepth 100000 in
set_option maxHeartbeats 4000000 in
theorem hashPlays_walk (v : Value) (ops : List SlotV) (w : World) (S : Nat → Prop) (hv : Rd S w v ops.length (flatSl ops)) (hS : ∀ i, S i → i < w.heap.size) :
    Calls Try.prog 8 #[v] w (RetTrue w) := by
  obtain ⟨va, vc, rfl, g1, g2, g3, g4⟩ := id hv
  have hlen : ops.length ≤ 9223372036854775807 := by unfold maxLen at g2; omega
  clear g1 g2 g3 g4
  have HV := Lib.hid hv; clear hv
  have HSB := Lib.hid hS; clear hS
  have HS := Lib.hid (St.start w)
  go_enter Try.func8, Try.ntmps8
  go_wp2_with fail
  refine (hash_new HS.out).mono ?_
  rintro e w1 ⟨bd, rfl, hst⟩
  have H1 := Lib.hid (show St w w1 [hashA bd tab0] from hst); clear hst HS
  go_wp2_with fail
  refine (awake9_keep w1).mono ?_
  rintro e w2 ⟨rfl, hk⟩
  have H2 := Lib.hid (H1.out.keep hk); clear hk H1
  go_wp2_with fail
  refine (rh_new (tab_new H2.out)).mono ?_
  rintro e w3 ⟨bw, rfl, hst⟩
  obtain ⟨bt, hbt⟩ : ∃ bt, w2.heap.size = bt := ⟨_, rfl⟩
  rw [hbt] at hst ⊢
  have H3 := Lib.hid (show St w w3 [hashA bd tab0, tabA bt [], rhA bw tab0] from hst)
  clear hst hbt H2
  go_wp2_with fail
  go_loopg [6] ops.length (fun g v6 wr => LoopPl w bd bt bw ops.length g v6 wr)
  case atStart => exact ⟨0, tab0, [], by omega, by omega, rfl, HInv.start, TRel.start, H3.out⟩
  case round =>
    obtain ⟨i, l, rows, hi, hi2, rfl, hI, hR, hst⟩ := hrel
    clear H3
    have hil : i ≤ ops.length := by omega
    have HI := Lib.hid hi; clear hi
    by_cases hlt : i < ops.length ∧ i < 100
    · obtain ⟨hlt, h200⟩ := hlt
      obtain ⟨bs, os, rfl, hbs, hco⟩ := (HV.out.below hst.bel HSB.out).elem (cells := SlotV.cells) (size := 5) (fun _ => rfl) (by decide) (sl_get (l := ops) (p := i) hlt)
      have hbl := HSB.out bs hbs
      obtain ⟨s, hs⟩ : ∃ s, sl ops i = s := ⟨_, rfl⟩
      rw [hs] at hco
      obtain ⟨kind, idx, vk, va, vb⟩ := s
      have HSL := Lib.hid hs
      have d3 := hco 0 (by decide)
      have d4 := hco 1 (by decide)
      have d5 := hco 2 (by decide)
      have d6 := hco 3 (by decide)
      have d7 := hco 4 (by decide)
      simp [SlotV.cells] at d3 d4 d5 d6 d7
      have hia : (i : Int) < ops.length := by omega
      have hib : (i : Int) < 100 := by omega
      obtain ⟨rows', hI', hR', hC⟩ := do9 hst hI (by omega) hR ⟨kind, idx, vk, va, vb⟩
      obtain ⟨l', hl'⟩ : ∃ l', stepS l ⟨kind, idx, vk, va, vb⟩ = l' := ⟨_, rfl⟩
      rw [hl'] at hI' hR' hC
      have HC := Lib.hid hC
      have HI' := Lib.hid hI'
      have HR' := Lib.hid hR'
      have HII := Lib.hid hI
      clear hC hst hI hR hs hco hbs hI' hR'
      go_wp2_with fail
      refine (HC.out).mono ?_
      rintro e w5 ⟨rfl, hst⟩
      have H5 := Lib.hid hst
      clear hst HC d3 d4 d5 d6 d7
      obtain ⟨bs', os', he, _, hco⟩ := (HV.out.below H5.out.bel HSB.out).elem (cells := SlotV.cells) (size := 5) (fun _ => rfl) (by decide) (sl_get (l := ops) (p := i) hlt)
      injection he with he
      injection he with e1 e2
      subst e1; subst e2
      obtain ⟨s, hs⟩ : ∃ s, sl ops i = s := ⟨_, rfl⟩
      rw [hs] at hco
      rw [HSL.out] at hs
      subst hs
      have d3 := hco 0 (by decide)
      have d4 := hco 1 (by decide)
      have d5 := hco 2 (by decide)
      have d6 := hco 3 (by decide)
      have d7 := hco 4 (by decide)
      simp [SlotV.cells] at d3 d4 d5 d6 d7
      clear hco
      by_cases hk0 : kind = 0
      · subst hk0
        rw [stepS_put] at hl'
        have HPT := Lib.hid (fun w9 (h9 : St w w9 [hashA bd l', tabA bt rows', rhA bw l]) => rh_put_any h9 2 rfl HII.out (by omega) idx vk va vb)
        rw [hl'] at HPT
        go_upto_region 12 with (fail)
        refine wp_region_M (r := 11) (S := fun w' => w'.cell? ⟨bs, os + i * 5 + 1, none⟩ = some (.int .i64 idx) ∧ w'.cell? ⟨bs, os + i * 5 + 2, none⟩ = some (.int .i64 vk) ∧ w'.cell? ⟨bs, os + i * 5 + 3, none⟩ = some (.int .i64 va) ∧ w'.cell? ⟨bs, os + i * 5 + 4, none⟩ = some (.int .i64 vb)) (by kernel_rfl) ?_ (fun hHeld => ?_)
        · (try dsimp only); go_keep
        (refine wpAnyM_takeP (i := 0) (oi := ?_) (v := ?_) ?_ ?_ ?_ ?_ ?_ ?_ ?_ ?_ ?_; rotate_left 2; (· simp only [List.getElem?_toArray, List.getElem?_cons_succ, List.getElem?_cons_zero]; exact rfl); (· kernel_rfl); (· kernel_rfl); (· kernel_rfl); (· kernel_rfl); (· first | exact fun _ _ _ h => h | exact fun _ _ _ h => (HPan.out _ _ _ h).elim); (· (refine Or.inl ⟨by rfl, ?_⟩; (intro w hSw; (try dsimp only at hSw); go_simp) <;> with_reducible rfl)); (· exact fun _ => hHeld); simp only [Act.put, List.setIfInBounds_toArray, List.set_cons_zero, List.set_cons_succ])
        (refine wpAnyM_takeP (i := 1) (oi := ?_) (v := ?_) ?_ ?_ ?_ ?_ ?_ ?_ ?_ ?_ ?_; rotate_left 2; (· simp only [List.getElem?_toArray, List.getElem?_cons_succ, List.getElem?_cons_zero]; exact rfl); (· kernel_rfl); (· kernel_rfl); (· kernel_rfl); (· kernel_rfl); (· first | exact fun _ _ _ h => h | exact fun _ _ _ h => (HPan.out _ _ _ h).elim); (· (refine Or.inl ⟨by rfl, ?_⟩; (intro w hSw; (try dsimp only at hSw); go_simp) <;> with_reducible rfl)); (· exact fun _ => hHeld); simp only [Act.put, List.setIfInBounds_toArray, List.set_cons_zero, List.set_cons_succ])
        (refine wpAnyM_takeP (i := 2) (oi := ?_) (v := ?_) ?_ ?_ ?_ ?_ ?_ ?_ ?_ ?_ ?_; rotate_left 2; (· simp only [List.getElem?_toArray, List.getElem?_cons_succ, List.getElem?_cons_zero]; exact rfl); (· kernel_rfl); (· kernel_rfl); (· kernel_rfl); (· kernel_rfl); (· first | exact fun _ _ _ h => h | exact fun _ _ _ h => (HPan.out _ _ _ h).elim); (· (refine Or.inl ⟨by rfl, ?_⟩; (intro w hSw; (try dsimp only at hSw); go_simp) <;> with_reducible rfl)); (· exact fun _ => hHeld); simp only [Act.put, List.setIfInBounds_toArray, List.set_cons_zero, List.set_cons_succ])
        (refine wpAnyM_takeP (i := 3) (oi := ?_) (v := ?_) ?_ ?_ ?_ ?_ ?_ ?_ ?_ ?_ ?_; rotate_left 2; (· simp only [List.getElem?_toArray, List.getElem?_cons_succ, List.getElem?_cons_zero]; exact rfl); (· kernel_rfl); (· kernel_rfl); (· kernel_rfl); (· kernel_rfl); (· first | exact fun _ _ _ h => h | exact fun _ _ _ h => (HPan.out _ _ _ h).elim); (· (refine Or.inl ⟨by rfl, ?_⟩; (intro w hSw; (try dsimp only at hSw); go_simp) <;> with_reducible rfl)); (· exact fun _ => hHeld); simp only [Act.put, List.setIfInBounds_toArray, List.set_cons_zero, List.set_cons_succ])
        (refine wpAnyM_takeP (i := 4) (oi := ?_) (v := ?_) ?_ ?_ ?_ ?_ ?_ ?_ ?_ ?_ ?_; rotate_left 2; (· simp only [List.getElem?_toArray, List.getElem?_cons_succ, List.getElem?_cons_zero]; exact rfl); (· kernel_rfl); (· kernel_rfl); (· kernel_rfl); (· kernel_rfl); (· first | exact fun _ _ _ h => h | exact fun _ _ _ h => (HPan.out _ _ _ h).elim); (· (refine Or.inl ⟨by rfl, ?_⟩; (intro w hSw; (try dsimp only at hSw); go_simp) <;> with_reducible rfl)); (· exact fun _ => hHeld); simp only [Act.put, List.setIfInBounds_toArray, List.set_cons_zero, List.set_cons_succ])
        (refine wpAnyM_take (i := 5) (oi := ?_) (v := ?_) ?_ ?_ ?_ ?_ ?_ ?_ ?_ ?_ ?_ ?_; rotate_left 2; (· simp only [List.getElem?_toArray, List.getElem?_cons_succ, List.getElem?_cons_zero]; exact rfl); (· kernel_rfl); (· kernel_rfl); (· kernel_rfl); (· kernel_rfl); (· kernel_rfl); (· first | exact fun _ _ _ h => h | exact fun _ _ _ h => (HPan.out _ _ _ h).elim); (· (refine Or.inl ⟨by rfl, ?_⟩; (intro w hSw; (try dsimp only at hSw); go_simp) <;> with_reducible rfl)); (· assumption); simp only [Act.put, List.setIfInBounds_toArray, List.set_cons_zero, List.set_cons_succ])
        (refine wpAnyM_takeP (i := 6) (oi := ?_) (v := ?_) ?_ ?_ ?_ ?_ ?_ ?_ ?_ ?_ ?_; rotate_left 2; (· simp only [List.getElem?_toArray, List.getElem?_cons_succ, List.getElem?_cons_zero]; exact rfl); (· kernel_rfl); (· kernel_rfl); (· kernel_rfl); (· kernel_rfl); (· first | exact fun _ _ _ h => h | exact fun _ _ _ h => (HPan.out _ _ _ h).elim); (· (refine Or.inl ⟨by rfl, ?_⟩; (intro w hSw; (try dsimp only at hSw); go_simp) <;> with_reducible rfl)); (· exact fun _ => hHeld); simp only [Act.put, List.setIfInBounds_toArray, List.set_cons_zero, List.set_cons_succ])
        (refine wpAnyM_takeP (i := 7) (oi := ?_) (v := ?_) ?_ ?_ ?_ ?_ ?_ ?_ ?_ ?_ ?_; rotate_left 2; (· simp only [List.getElem?_toArray, List.getElem?_cons_succ, List.getElem?_cons_zero]; exact rfl); (· kernel_rfl); (· kernel_rfl); (· kernel_rfl); (· kernel_rfl); (· first | exact fun _ _ _ h => h | exact fun _ _ _ h => (HPan.out _ _ _ h).elim); (· (refine Or.inl ⟨by rfl, ?_⟩; (intro w hSw; (try dsimp only at hSw); go_simp) <;> with_reducible rfl)); (· exact fun _ => hHeld); simp only [Act.put, List.setIfInBounds_toArray, List.set_cons_zero, List.set_cons_succ])
        (refine wpAnyM_takeP (i := 8) (oi := ?_) (v := ?_) ?_ ?_ ?_ ?_ ?_ ?_ ?_ ?_ ?_; rotate_left 2; (· simp only [List.getElem?_toArray, List.getElem?_cons_succ, List.getElem?_cons_zero]; exact rfl); (· kernel_rfl); (· kernel_rfl); (· kernel_rfl); (· kernel_rfl); (· first | exact fun _ _ _ h => h | exact fun _ _ _ h => (HPan.out _ _ _ h).elim); (· (refine Or.inl ⟨by rfl, ?_⟩; (intro w hSw; (try dsimp only at hSw); go_simp) <;> with_reducible rfl)); (· exact fun _ => hHeld); simp only [Act.put, List.setIfInBounds_toArray, List.set_cons_zero, List.set_cons_succ])
        (refine wpAnyM_takeP (i := 9) (oi := ?_) (v := ?_) ?_ ?_ ?_ ?_ ?_ ?_ ?_ ?_ ?_; rotate_left 2; (· simp only [List.getElem?_toArray, List.getElem?_cons_succ, List.getElem?_cons_zero]; exact rfl); (· kernel_rfl); (· kernel_rfl); (· kernel_rfl); (· kernel_rfl); (· first | exact fun _ _ _ h => h | exact fun _ _ _ h => (HPan.out _ _ _ h).elim); (· (refine Or.inl ⟨by rfl, ?_⟩; (intro w hSw; (try dsimp only at hSw); go_simp) <;> with_reducible rfl)); (· exact fun _ => hHeld); simp only [Act.put, List.setIfInBounds_toArray, List.set_cons_zero, List.set_cons_succ])
        (refine wpAnyM_take (i := 10) (oi := ?_) (v := ?_) ?_ ?_ ?_ ?_ ?_ ?_ ?_ ?_ ?_ ?_; rotate_left 2; (· simp only [List.getElem?_toArray, List.getElem?_cons_succ, List.getElem?_cons_zero]; exact rfl); (· kernel_rfl); (· kernel_rfl); (· kernel_rfl); (· kernel_rfl); (· kernel_rfl); (· first | exact fun _ _ _ h => h | exact fun _ _ _ h => (HPan.out _ _ _ h).elim); (· (refine Or.inl ⟨by rfl, ?_⟩; (intro w hSw; (try dsimp only at hSw); go_simp) <;> with_reducible rfl)); (· assumption); simp only [Act.put, List.setIfInBounds_toArray, List.set_cons_zero, List.set_cons_succ])
        refine wpAnyM_ready (rs := [11]) (by kernel_rfl) (by simp) ?_
        refine AllReadyM.free (o := ?_) ?_ (by kernel_rfl) ?_ ?_
        rotate_left 1
        · simp only [List.getElem?_toArray, List.getElem?_cons_succ, List.getElem?_cons_zero]; exact rfl
        rotate_left 1
        · exact AllReadyM.nil
        intro K hK
        go_simp
        go_wp2_with ((go_at_call 29; refine (HPT.out _ H5.out.drew).mono ?_; rintro e w6 ⟨⟨r, rfl⟩, hst⟩; have H6 := Lib.hid (show St w w6 [hashA bd l', tabA bt rows', rhA bw l'] from hst); clear hst HPT))
        refine hK.out _ _ ?_
        clear hK K
        refine wpAnyM_done (by kernel_rfl) ?_ _
        clear hl' d3 d4 d5 d6 d7 H5
        have hs9 := slots9 H6.out 0 2 rfl rfl (by have := HI'.out.pow.pos; omega) HI'.out.pow.pos.2
        have HS9 := Lib.hid hs9; clear hs9
        go_wp2_with fail
        refine (HS9.out).mono ?_
        rintro e w7 ⟨rfl, hst⟩
        have H7 := Lib.hid hst
        clear hst HS9 H6
        go_wp2_with fail
        go_roundg (ops.length - (i + 1))
        case measure => have := HI.out; omega
        case rel => exact ⟨i + 1, l', rows', by omega, by omega, by go_num, HI'.out, HR'.out, H7.out⟩
      · by_cases hk1 : kind = 1
        · subst hk1
          rw [stepS_take] at hl'
          have HPT := Lib.hid (fun w9 (h9 : St w w9 [hashA bd l', tabA bt rows', rhA bw l]) => rh_take_any h9 2 rfl HII.out idx)
          rw [hl'] at HPT
          have e10 : ((1 : Int) == 0) = false := by decide
          go_wp2_with fail
          refine (HPT.out _ H5.out).mono ?_
          rintro e w6 ⟨⟨r, rfl⟩, hst⟩
          have H6 := Lib.hid (show St w w6 [hashA bd l', tabA bt rows', rhA bw l'] from hst)
          clear hst HPT
          clear hl' d3 d4 d5 d6 d7 H5
          have hs9 := slots9 H6.out 0 2 rfl rfl (by have := HI'.out.pow.pos; omega) HI'.out.pow.pos.2
          have HS9 := Lib.hid hs9; clear hs9
          go_wp2_with fail
          refine (HS9.out).mono ?_
          rintro e w7 ⟨rfl, hst⟩
          have H7 := Lib.hid hst
          clear hst HS9 H6
          go_wp2_with fail
          go_roundg (ops.length - (i + 1))
          case measure => have := HI.out; omega
          case rel => exact ⟨i + 1, l', rows', by omega, by omega, by go_num, HI'.out, HR'.out, H7.out⟩
        · rw [stepS_get _ _ _ _ _ _ hk0 hk1] at hl'
          have e10 : (kind == 0) = false := beq_eq_false_iff_ne.2 hk0
          have e11 : (kind == 1) = false := beq_eq_false_iff_ne.2 hk1
          obtain ⟨w6, hw6⟩ : ∃ w6, w6 = w5 := ⟨_, rfl⟩
          have H6 := Lib.hid (show St w w6 [hashA bd l', tabA bt rows', rhA bw l'] by rw [hw6, ← hl']; rw [← hl'] at H5; exact H5.out)
          rw [← hw6] at d3 d4 d5 d6 d7 ⊢
          clear hw6
          go_upto_region 15 with (fail)
          clear hl' d3 d4 d5 d6 d7 H5
          have hs9 := slots9 H6.out 0 2 rfl rfl (by have := HI'.out.pow.pos; omega) HI'.out.pow.pos.2
          have HS9 := Lib.hid hs9; clear hs9
          go_wp2_with fail
          refine (HS9.out).mono ?_
          rintro e w7 ⟨rfl, hst⟩
          have H7 := Lib.hid hst
          clear hst HS9 H6
          go_wp2_with fail
          go_roundg (ops.length - (i + 1))
          case measure => have := HI.out; omega
          case rel => exact ⟨i + 1, l', rows', by omega, by omega, by go_num, HI'.out, HR'.out, H7.out⟩
    · have hx : (i : Int) < ops.length → ¬ (i : Int) < 100 := by omega
      have H4 := Lib.hid hst
      clear hI hR hst HI
      by_cases hl2 : i < ops.length
      all_goals
        first
        | (have hx1 : ¬ (i : Int) < ops.length := by omega)
        | (have hx1 : (i : Int) < ops.length := by omega
           have hx2 : ¬ (i : Int) < 100 := by omega)
        clear hlt hl2 hil hi2 hx
        go_wp2_with fail
        go_ret
        exact H4.out.ret
end Go.Proofs.Ytcmbbkaioopkhaa
