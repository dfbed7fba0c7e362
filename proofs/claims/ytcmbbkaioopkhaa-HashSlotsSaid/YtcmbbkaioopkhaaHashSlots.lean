/-
  HashSlots: after any script, the slots stand as they must.
-/
import Derived.Test.YtcmbbkaioopkhaaHash8
import Derived.BigQuiet
namespace Go.Proofs.Ytcmbbkaioopkhaa
open Go Go.RowKit
set_option linter.unusedVariables false
set_option linter.unusedSimpArgs false

theorem HInv.more {l : List SlotV} {C : Nat} (h : HInv l C) : HInv l (C + 1) := ⟨h.tab, h.pow, by have := h.len; omega, by have := h.cnt; omega⟩
/-- Any put. -/
theorem hash_put_raw {w0 w : World} {L : List Asr} {b : Nat} {l : List SlotV} {C : Nat} (H : St w0 w L) (i : Nat) (hi : L[i]? = some (hashA b l)) (hI : HInv l C) (hC : C ≤ 60000) (x vk va vb : Int) :
    ∃ l', HInv l' (C + 1) ∧ Calls Try.prog 32 #[.pointer (some ⟨b, 0, none⟩), .int .i64 x, .agg #[.int .i64 vk, .int .i64 va, .int .i64 vb]] w (fun e w' => (∃ v, e = .returned v) ∧ St w0 w' (L.set i (hashA b l'))) := by
  by_cases h : 0 ≤ x ∧ x < 65536
  · obtain ⟨l', had, ov, hok, hC⟩ := hash_put_any H i hi hI hC x h.1 h.2 vk va vb
    exact ⟨l', hok.inv, hC.mono fun e w' ⟨h1, h2⟩ => ⟨⟨_, h1⟩, h2⟩⟩
  · exact ⟨l, hI.more, (hash_Put_no b x (by omega) vk va vb w).mono fun e w' ⟨h1, h2⟩ => ⟨⟨_, h1⟩, by rw [set_same _ _ _ hi]; exact H.keep h2⟩⟩
/-- Any take. -/
theorem hash_take_raw {w0 w : World} {L : List Asr} {b : Nat} {l : List SlotV} {C : Nat} (H : St w0 w L) (i : Nat) (hi : L[i]? = some (hashA b l)) (hI : HInv l C) (hC : C ≤ 60000) (x : Int) :
    ∃ l', HInv l' (C + 1) ∧ Calls Try.prog 33 #[.pointer (some ⟨b, 0, none⟩), .int .i64 x] w (fun e w' => (∃ v, e = .returned v) ∧ St w0 w' (L.set i (hashA b l'))) := by
  by_cases h : 0 ≤ x ∧ x < 65536
  · obtain ⟨l', had, ov, hok, hC⟩ := hash_take_any H i hi hI hC x h.1 h.2
    exact ⟨l', hok.inv.more, hC.mono fun e w' ⟨h1, h2⟩ => ⟨⟨_, h1⟩, h2⟩⟩
  · exact ⟨l, hI.more, (hash_take_miss b x w (hash_get_no b x (by omega) _)).mono fun e w' ⟨h1, h2⟩ => ⟨⟨_, h1⟩, by rw [set_same _ _ _ hi]; exact H.keep h2⟩⟩

def LoopHS0 (w : World) (b N : Nat) (g : Nat) (v4 : Value) (wr : World) : Prop :=
  ∃ (i : Nat) (l : List SlotV), g + i = N ∧ i ≤ 100 ∧ v4 = .int .i64 i ∧ HInv l i ∧ St w wr [hashA b l]
def LoopHS2 (w : World) (L : List Asr) (n : Nat) (g : Nat) (v7 : Value) (wr : World) : Prop :=
  ∃ p : Nat, g + p = n ∧ v7 = .int .i64 p ∧ St w wr L
def LoopHS4 (w4 : World) (n h D : Nat) (g : Nat) (v8 : Value) (wr : World) : Prop :=
  ∃ d : Nat, g + d = D ∧ v8 = .int .i64 (ps n h d) ∧ Keep w4 wr Nope

set_option maxRecDepth 100000 in
set_option maxHeartbeats 4000000 in
theorem hashSlots_walk (v : Value) (ops : List SlotV) (w : World) (S : Nat → Prop) (hv : Rd S w v ops.length (flatSl ops)) (hS : ∀ i, S i → i < w.heap.size) :
    Calls Try.prog 11 #[v] w (RetTrue w) := by
  obtain ⟨va, vc, rfl, g1, g2, g3, g4⟩ := id hv
  have hlen : ops.length ≤ 9223372036854775807 := by unfold maxLen at g2; omega
  clear g1 g2 g3 g4
  have HV := Lib.hid hv; clear hv
  have HSB := Lib.hid hS; clear hS
  have HS := Lib.hid (St.start w)
  go_enter Try.func11, Try.ntmps11
  go_wp2_with fail
  refine (hash_new HS.out).mono ?_
  rintro e w1 ⟨b, rfl, hst⟩
  have H1 := Lib.hid (show St w w1 [hashA b tab0] from hst); clear hst HS
  go_wp2_with fail
  go_loopg [4] ops.length (fun g v4 wr => LoopHS0 w b ops.length g v4 wr)
  case atStart => exact ⟨0, tab0, by omega, by omega, rfl, HInv.start, H1.out⟩
  case round =>
    obtain ⟨i, l, hi, hi2, rfl, hI, hst⟩ := hrel
    clear H1
    have hil : i ≤ ops.length := by omega
    have HI := Lib.hid hi; clear hi
    by_cases hlt : i < ops.length ∧ i < 100
    · obtain ⟨hlt, h200⟩ := hlt
      obtain ⟨bs, os, rfl, hbs, hco⟩ := (HV.out.below hst.bel HSB.out).elem (cells := SlotV.cells) (size := 5) (fun _ => rfl) (by decide) (sl_get (l := ops) (p := i) hlt)
      obtain ⟨s, hs⟩ : ∃ s, sl ops i = s := ⟨_, rfl⟩
      rw [hs] at hco
      obtain ⟨kind, idx, vk, va, vb⟩ := s
      have d3 := hco 0 (by decide)
      have d4 := hco 1 (by decide)
      have d5 := hco 2 (by decide)
      have d6 := hco 3 (by decide)
      have d7 := hco 4 (by decide)
      simp [SlotV.cells] at d3 d4 d5 d6 d7
      have hia : (i : Int) < ops.length := by omega
      have hib : (i : Int) < 100 := by omega
      obtain ⟨lp, hI1, hC1⟩ := hash_put_raw (hst.keep (Keep.refl _ _).drew) 0 rfl hI (by omega) idx vk va vb
      obtain ⟨lt, hI2, hC2⟩ := hash_take_raw hst 0 rfl hI (by omega) idx
      have HI1 := Lib.hid hI1
      have HI2 := Lib.hid hI2
      have HC1 := Lib.hid hC1
      have HC2 := Lib.hid hC2
      clear hI1 hI2 hC1 hC2 hst hI hs hco hbs
      by_cases hk : kind = 0
      · subst hk
        go_wp2_with fail
        refine wp_region_M (r := 11) (S := fun w' => w'.cell? ⟨bs, os + i * 5 + 1, none⟩ = some (.int .i64 idx) ∧ w'.cell? ⟨bs, os + i * 5 + 2, none⟩ = some (.int .i64 vk) ∧ w'.cell? ⟨bs, os + i * 5 + 3, none⟩ = some (.int .i64 va) ∧ w'.cell? ⟨bs, os + i * 5 + 4, none⟩ = some (.int .i64 vb)) (by kernel_rfl) ?_ (fun hHeld => ?_)
        · (try dsimp only); go_keep
        (refine wpAnyM_takeP (i := 0) (oi := ?_) (v := ?_) ?_ ?_ ?_ ?_ ?_ ?_ ?_ ?_ ?_; rotate_left 2; (· simp only [List.getElem?_toArray, List.getElem?_cons_succ, List.getElem?_cons_zero]; exact rfl); (· kernel_rfl); (· kernel_rfl); (· kernel_rfl); (· kernel_rfl); (· first | exact fun _ _ _ h => h | exact fun _ _ _ h => (HPan.out _ _ _ h).elim); (· (refine Or.inl ⟨by rfl, ?_⟩; (intro w hSw; (try dsimp only at hSw); go_simp) <;> with_reducible rfl)); (· exact fun _ => hHeld); simp only [Act.put, List.setIfInBounds_toArray, List.set_cons_zero, List.set_cons_succ])
        (refine wpAnyM_takeP (i := 1) (oi := ?_) (v := ?_) ?_ ?_ ?_ ?_ ?_ ?_ ?_ ?_ ?_; rotate_left 2; (· simp only [List.getElem?_toArray, List.getElem?_cons_succ, List.getElem?_cons_zero]; exact rfl); (· kernel_rfl); (· kernel_rfl); (· kernel_rfl); (· kernel_rfl); (· first | exact fun _ _ _ h => h | exact fun _ _ _ h => (HPan.out _ _ _ h).elim); (· (refine Or.inl ⟨by rfl, ?_⟩; (intro w hSw; (try dsimp only at hSw); go_simp) <;> with_reducible rfl)); (· exact fun _ => hHeld); simp only [Act.put, List.setIfInBounds_toArray, List.set_cons_zero, List.set_cons_succ])
        (refine wpAnyM_takeP (i := 2) (oi := ?_) (v := ?_) ?_ ?_ ?_ ?_ ?_ ?_ ?_ ?_ ?_; rotate_left 2; (· simp only [List.getElem?_toArray, List.getElem?_cons_succ, List.getElem?_cons_zero]; exact rfl); (· kernel_rfl); (· kernel_rfl); (· kernel_rfl); (· kernel_rfl); (· first | exact fun _ _ _ h => h | exact fun _ _ _ h => (HPan.out _ _ _ h).elim); (· (refine Or.inl ⟨by rfl, ?_⟩; (intro w hSw; (try dsimp only at hSw); go_simp) <;> with_reducible rfl)); (· exact fun _ => hHeld); simp only [Act.put, List.setIfInBounds_toArray, List.set_cons_zero, List.set_cons_succ])
        (refine wpAnyM_takeP (i := 3) (oi := ?_) (v := ?_) ?_ ?_ ?_ ?_ ?_ ?_ ?_ ?_ ?_; rotate_left 2; (· simp only [List.getElem?_toArray, List.getElem?_cons_succ, List.getElem?_cons_zero]; exact rfl); (· kernel_rfl); (· kernel_rfl); (· kernel_rfl); (· kernel_rfl); (· first | exact fun _ _ _ h => h | exact fun _ _ _ h => (HPan.out _ _ _ h).elim); (· (refine Or.inl ⟨by rfl, ?_⟩; (intro w hSw; (try dsimp only at hSw); go_simp) <;> with_reducible rfl)); (· exact fun _ => hHeld); simp only [Act.put, List.setIfInBounds_toArray, List.set_cons_zero, List.set_cons_succ])
        (refine wpAnyM_takeP (i := 4) (oi := ?_) (v := ?_) ?_ ?_ ?_ ?_ ?_ ?_ ?_ ?_ ?_; rotate_left 2; (· simp only [List.getElem?_toArray, List.getElem?_cons_succ, List.getElem?_cons_zero]; exact rfl); (· kernel_rfl); (· kernel_rfl); (· kernel_rfl); (· kernel_rfl); (· first | exact fun _ _ _ h => h | exact fun _ _ _ h => (HPan.out _ _ _ h).elim); (· (refine Or.inl ⟨by rfl, ?_⟩; (intro w hSw; (try dsimp only at hSw); go_simp) <;> with_reducible rfl)); (· exact fun _ => hHeld); simp only [Act.put, List.setIfInBounds_toArray, List.set_cons_zero, List.set_cons_succ])
        (refine wpAnyM_take (i := 5) (oi := ?_) (v := ?_) ?_ ?_ ?_ ?_ ?_ ?_ ?_ ?_ ?_ ?_; rotate_left 2; (· simp only [List.getElem?_toArray, List.getElem?_cons_succ, List.getElem?_cons_zero]; exact rfl); (· kernel_rfl); (· kernel_rfl); (· kernel_rfl); (· kernel_rfl); (· kernel_rfl); (· first | exact fun _ _ _ h => h | exact fun _ _ _ h => (HPan.out _ _ _ h).elim); (· (refine Or.inl ⟨by rfl, ?_⟩; (intro w hSw; (try dsimp only at hSw); go_simp) <;> with_reducible rfl)); (· assumption); simp only [Act.put, List.setIfInBounds_toArray, List.set_cons_zero, List.set_cons_succ])
        (refine wpAnyM_takeP (i := 6) (oi := ?_) (v := ?_) ?_ ?_ ?_ ?_ ?_ ?_ ?_ ?_ ?_; rotate_left 2; (· simp only [List.getElem?_toArray, List.getElem?_cons_succ, List.getElem?_cons_zero]; exact rfl); (· kernel_rfl); (· kernel_rfl); (· kernel_rfl); (· kernel_rfl); (· first | exact fun _ _ _ h => h | exact fun _ _ _ h => (HPan.out _ _ _ h).elim); (· (refine Or.inl ⟨by rfl, ?_⟩; (intro w hSw; (try dsimp only at hSw); go_simp) <;> with_reducible rfl)); (· exact fun _ => hHeld); simp only [Act.put, List.setIfInBounds_toArray, List.set_cons_zero, List.set_cons_succ])
        (refine wpAnyM_takeP (i := 7) (oi := ?_) (v := ?_) ?_ ?_ ?_ ?_ ?_ ?_ ?_ ?_ ?_; rotate_left 2; (· simp only [List.getElem?_toArray, List.getElem?_cons_succ, List.getElem?_cons_zero]; exact rfl); (· kernel_rfl); (· kernel_rfl); (· kernel_rfl); (· kernel_rfl); (· first | exact fun _ _ _ h => h | exact fun _ _ _ h => (HPan.out _ _ _ h).elim); (· (refine Or.inl ⟨by rfl, ?_⟩; (intro w hSw; (try dsimp only at hSw); go_simp) <;> with_reducible rfl)); (· exact fun _ => hHeld); simp only [Act.put, List.setIfInBounds_toArray, List.set_cons_zero, List.set_cons_succ])
        (refine wpAnyM_takeP (i := 8) (oi := ?_) (v := ?_) ?_ ?_ ?_ ?_ ?_ ?_ ?_ ?_ ?_; rotate_left 2; (· simp only [List.getElem?_toArray, List.getElem?_cons_succ, List.getElem?_cons_zero]; exact rfl); (· kernel_rfl); (· kernel_rfl); (· kernel_rfl); (· kernel_rfl); (· first | exact fun _ _ _ h => h | exact fun _ _ _ h => (HPan.out _ _ _ h).elim); (· (refine Or.inl ⟨by rfl, ?_⟩; (intro w hSw; (try dsimp only at hSw); go_simp) <;> with_reducible rfl)); (· exact fun _ => hHeld); simp only [Act.put, List.setIfInBounds_toArray, List.set_cons_zero, List.set_cons_succ])
        (refine wpAnyM_takeP (i := 9) (oi := ?_) (v := ?_) ?_ ?_ ?_ ?_ ?_ ?_ ?_ ?_ ?_; rotate_left 2; (· simp only [List.getElem?_toArray, List.getElem?_cons_succ, List.getElem?_cons_zero]; exact rfl); (· kernel_rfl); (· kernel_rfl); (· kernel_rfl); (· kernel_rfl); (· first | exact fun _ _ _ h => h | exact fun _ _ _ h => (HPan.out _ _ _ h).elim); (· (refine Or.inl ⟨by rfl, ?_⟩; (intro w hSw; (try dsimp only at hSw); go_simp) <;> with_reducible rfl)); (· exact fun _ => hHeld); simp only [Act.put, List.setIfInBounds_toArray, List.set_cons_zero, List.set_cons_succ])
        (refine wpAnyM_take (i := 10) (oi := ?_) (v := ?_) ?_ ?_ ?_ ?_ ?_ ?_ ?_ ?_ ?_ ?_; rotate_left 2; (· simp only [List.getElem?_toArray, List.getElem?_cons_succ, List.getElem?_cons_zero]; exact rfl); (· kernel_rfl); (· kernel_rfl); (· kernel_rfl); (· kernel_rfl); (· kernel_rfl); (· first | exact fun _ _ _ h => h | exact fun _ _ _ h => (HPan.out _ _ _ h).elim); (· (refine Or.inl ⟨by rfl, ?_⟩; (intro w hSw; (try dsimp only at hSw); go_simp) <;> with_reducible rfl)); (· assumption); simp only [Act.put, List.setIfInBounds_toArray, List.set_cons_zero, List.set_cons_succ])
        refine wpAnyM_ready (rs := [11]) (by kernel_rfl) (by simp) ?_
        refine AllReadyM.free (o := ?_) ?_ (by kernel_rfl) ?_ ?_
        rotate_left 1
        · simp only [List.getElem?_toArray, List.getElem?_cons_succ, List.getElem?_cons_zero]; exact rfl
        rotate_left 1
        · exact AllReadyM.nil
        intro K hK
        go_simp
        go_wp2_with ((go_at_call 32; refine (HC1.out).mono ?_; rintro e w2 ⟨⟨r, rfl⟩, hst⟩; have H2 := Lib.hid (show St w w2 [hashA b lp] from hst); clear hst HC1 HC2 HI2))
        refine hK.out _ _ ?_
        clear hK K
        refine wpAnyM_done (by kernel_rfl) ?_ _
        go_wp2_with fail
        go_roundg (ops.length - (i + 1))
        (case measure => have := HI.out; omega)
        (case rel => exact ⟨i + 1, lp, by omega, by omega, by go_num, HI1.out, H2.out⟩)
      · have e0 : (kind == 0) = false := beq_eq_false_iff_ne.2 hk
        go_wp2_with fail
        refine (HC2.out).mono ?_
        rintro e w2 ⟨⟨r, rfl⟩, hst⟩
        have H2 := Lib.hid (show St w w2 [hashA b lt] from hst); clear hst HC1 HC2 HI1
        go_wp2_with fail
        go_roundg (ops.length - (i + 1))
        case measure => have := HI.out; omega
        case rel => exact ⟨i + 1, lt, by omega, by omega, by go_num, HI2.out, H2.out⟩
    · have HINV := Lib.hid hI
      have H1 := Lib.hid hst
      clear hI hst HI
      have hx : (i : Int) < ops.length → ¬ (i : Int) < 100 := by omega
      have hSl := hash_slots H1.out 0 rfl (by have := HINV.out.len; omega)
      obtain ⟨m, hm⟩ : ∃ m, l.length = m := ⟨_, rfl⟩
      rw [hm] at hSl
      have HSL := Lib.hid hSl
      have hm8 := HINV.out.pow.pos
      rw [hm] at hm8
      obtain ⟨hm8, hmx⟩ := hm8
      have hm8i : (8 : Int) ≤ m := by omega
      have HMM := Lib.hid hm
      clear hSl hm H1 HV HSB
      by_cases hl2 : i < ops.length
      all_goals
        first
        | (have hx1 : ¬ (i : Int) < ops.length := by omega)
        | (have hx1 : (i : Int) < ops.length := by omega
           have hx2 : ¬ (i : Int) < 100 := by omega)
        clear hlt hl2 hil hi2 hx
        go_wp2_with fail
        refine (HSL.out).mono ?_
        rintro e w4 ⟨a4, c4, rfl, hst⟩
        have H4 := Lib.hid (show St w w4 [hashA b l, slA 79 5 (.slice a4 m c4) m (flatSl l)] from hst)
        clear hst HSL
        go_wp2_with fail
        go_loopg [7] m (fun g v7 wr => LoopHS2 w [hashA b l, slA 79 5 (.slice a4 m c4) m (flatSl l)] m g v7 wr)
        case atStart => exact ⟨0, by omega, rfl, H4.out⟩
        case round =>
          obtain ⟨p, hp, rfl, hst⟩ := hrel
          clear H4
          have H4 := Lib.hid hst; clear hst
          have hpm : p ≤ m := by omega
          have HP := Lib.hid hp; clear hp
          by_cases hlp : p < m
          · obtain ⟨S, _, hrd, _⟩ := H4.out.rd 1 rfl
            have hrd' := (show Rd S wr (.slice a4 m c4) m (flatSl l) from hrd)
            obtain ⟨bs, os, rfl, _, hco⟩ := hrd'.elem (cells := SlotV.cells) (size := 5) (fun _ => rfl) (by decide) (sl_get (l := l) (p := p) (by rw [HMM.out]; exact hlp))
            have HRD := Lib.hid hrd'; clear hrd hrd'
            have hwf := HINV.out.tab.wf p (by rw [HMM.out]; exact hlp)
            have hpa := HINV.out.tab.path p (by rw [HMM.out]; exact hlp)
            obtain ⟨s, hs⟩ : ∃ s, sl l p = s := ⟨_, rfl⟩
            rw [hs] at hwf hco hpa
            obtain ⟨kind, idx, vk, va, vb⟩ := s
            have d3 := hco 0 (by decide)
            have d4 := hco 1 (by decide)
            have d5 := hco 2 (by decide)
            have d6 := hco 3 (by decide)
            have d7 := hco 4 (by decide)
            simp [SlotV.cells] at d3 d4 d5 d6 d7
            have hpi : (p : Int) < m := by omega
            clear hco hs
            by_cases hk1 : kind = 1
            · subst hk1
              obtain ⟨x0, x1⟩ : 0 ≤ idx ∧ idx < 65536 := by
                rcases hwf with e | e | e
                · injection e with e; cases e
                · injection e with e; cases e
                · exact e.2
              obtain ⟨D, hD, hDp, hgo⟩ := hpa rfl
              rw [HMM.out] at hD hDp hgo
              simp only at hDp hgo
              have HC := Lib.hid (hash_home_yes idx m wr (by have := HINV.out.pow.may idx x0 x1; rwa [HMM.out] at this))
              rw [show homeOf idx m = (hmO m idx : Int) from by have := HINV.out.pow.eq idx x0 x1; rwa [HMM.out] at this] at HC
              have hhl : hmO m idx < m := by have := HINV.out.tab.home idx x0 x1; rwa [HMM.out] at this
              have HGO := Lib.hid hgo
              have HDP := Lib.hid hDp
              clear hgo hDp hpa hwf
              go_wp2_with fail
              refine (HC.out).mono ?_
              rintro e w5 ⟨rfl, rfl⟩
              go_wp2_with fail
              go_loopg [8] D (fun g v8 wz => LoopHS4 wr m (hmO m idx) D g v8 wz)
              case atStart => exact ⟨0, by omega, by unfold ps; rw [Nat.add_zero, Nat.mod_eq_of_lt hhl], Keep.refl _ _⟩
              case round =>
                rename_i wz
                obtain ⟨d, hd, rfl, hkp⟩ := hrel
                have HKP := Lib.hid hkp; clear hkp
                have hdD : d ≤ D := by omega
                have HDD := Lib.hid hd; clear hd
                by_cases hlD : d < D
                · obtain ⟨q, hq⟩ : ∃ q, ps m (hmO m idx) d = q := ⟨_, rfl⟩
                  have hne : q ≠ p := fun e => by
                    have := ps_inj (n := m) (h := hmO m idx) (d := d) (e := D) (by omega) hD hhl (by rw [hq, HDP.out, e])
                    omega
                  have hqm : q < m := by rw [← hq]; exact ps_lt (by omega) _ _
                  have hqi : (q : Int) < m := by omega
                  have hnei : ((q : Int) != p) = true := by simp; omega
                  have hg := HGO.out d hlD
                  unfold goOn at hg
                  rw [HMM.out, hq] at hg
                  obtain ⟨bs', os', hbe, _, hco⟩ := (HRD.out.keep HKP.out (fun _ _ f => f)).elem (cells := SlotV.cells) (size := 5) (fun _ => rfl) (by decide) (sl_get (l := l) (p := q) (by rw [HMM.out]; exact hqm))
                  injection hbe with hbe
                  injection hbe with e1 e2
                  subst e1; subst e2
                  obtain ⟨s2, hs2⟩ : ∃ s2, sl l q = s2 := ⟨_, rfl⟩
                  have hwq := HINV.out.tab.wf q (by rw [HMM.out]; exact hqm)
                  rw [hs2] at hco hg hwq
                  obtain ⟨kind2, idx2, vk2, va2, vb2⟩ := s2
                  have q3 := hco 0 (by decide)
                  have q4 := hco 1 (by decide)
                  simp [SlotV.cells] at q3 q4
                  have e4 := HKP.out.cell d4 (fun f => f)
                  simp only at hg
                  obtain ⟨hg1, hg2⟩ := hg
                  have hmod : ((q : Int) + 1) % (m : Int) = (ps m (hmO m idx) (d + 1) : Int) := by
                    rw [← ps_next, hq, Int.natCast_emod, Int.natCast_add]
                    rfl
                  have b0 : (kind2 == 0) = false := beq_eq_false_iff_ne.2 hg1
                  have b9 : decide ((q : Int) < 0) = false := decide_eq_false (by omega)
                  have HQ := Lib.hid hq
                  rw [hq]
                  clear hco hs2 hq
                  by_cases c1 : kind2 = 1
                  · subst c1
                    have b1 : (idx2 == idx) = false := beq_eq_false_iff_ne.2 (fun e => hg2 ⟨rfl, e⟩)
                    clear hg1 hg2 hwq
                    go_upto_region 21 with (fail)
                    go_quiet (fail)
                    go_wp2_with fail
                    go_roundg (D - (d + 1))
                    case measure => have := HDD.out; omega
                    case rel => exact ⟨d + 1, by omega, rfl, HKP.out.drewN _⟩
                  · obtain rfl : kind2 = 2 := by
                      rcases hwq with e | e | e
                      · injection e with e; exact absurd e hg1
                      · injection e with e
                      · exact absurd e.1 c1
                    clear hg1 hg2 hwq
                    go_upto_region 21 with (fail)
                    go_quiet (fail)
                    go_wp2_with fail
                    go_roundg (D - (d + 1))
                    case measure => have := HDD.out; omega
                    case rel => exact ⟨d + 1, by omega, rfl, HKP.out.drewN _⟩
                · obtain rfl : d = D := by omega
                  rw [HDP.out]
                  have hnei : ((p : Int) != p) = false := by simp
                  go_wp2_with fail
                  go_roundg (m - (p + 1))
                  case measure => have := HP.out; omega
                  case rel => exact ⟨p + 1, by omega, by go_num, H4.out.keep HKP.out⟩
            · obtain ⟨rfl, rfl, rfl, rfl, hk2⟩ : idx = 0 ∧ vk = 0 ∧ va = 0 ∧ vb = 0 ∧ (kind != 1) = true := by
                rcases hwf with e | e | e
                · injection e with e0 e1 e2 e3 e4; exact ⟨e1, e2, e3, e4, by simp [hk1]⟩
                · injection e with e0 e1 e2 e3 e4; exact ⟨e1, e2, e3, e4, by simp [hk1]⟩
                · exact absurd e.1 hk1
              clear hpa hwf
              go_wp2_with fail
              go_roundg (m - (p + 1))
              case measure => have := HP.out; omega
              case rel => exact ⟨p + 1, by omega, by go_num, H4.out⟩
          · obtain rfl : p = m := by omega
            go_wp2_with fail
            refine (st_awake9 H4.out).mono ?_
            rintro e w9 hret
            have HR := Lib.hid hret; clear hret
            obtain ⟨rfl, hbel⟩ := HR.out
            have HBL := Lib.hid hbel; clear hbel HR
            go_wp2_with fail
            go_ret
            exact ⟨rfl, HBL.out⟩
end Go.Proofs.Ytcmbbkaioopkhaa
